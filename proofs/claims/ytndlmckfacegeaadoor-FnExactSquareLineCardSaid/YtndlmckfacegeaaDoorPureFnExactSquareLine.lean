/- FnExactSquareLine: for every width and height, SquareLine of the program and of the reference answer alike. No condition. -/
import Derived.Test.YtndlmckfacegeaaDoorQFnExactSquareLinex5
import Derived.Test.YtndlmckfacegeaaDoorOpens
namespace Go.Proofs.YtndlmckfacegeaaDoor.Pure
open Go.RowKit Go.Proofs.YtndlmckfacegeaaDoor Go.Proofs.YtndlmckfacegeaaDoor.QFnExactSquareLine Go.Proofs.YtndlmckfacegeaaDoorW.PrintWords Go.Proofs.YtndlmckfacegeaaDoorW.PrintLast
set_option linter.unusedVariables false
set_option linter.unusedSimpArgs false

/-! base -/
theorem w64 {x : Int} (h0 : -9223372036854775808 ≤ x) (h1 : x ≤ 9223372036854775807) : wrap64 x = x := by unfold wrap64; omega
theorem w64n (n : Nat) (h : n ≤ 9223372036854775807) : wrap64 (n : Int) = n := w64 (by omega) (by omega)
theorem w64s (n : Nat) (h : n < 9223372036854775807) : wrap64 ((n : Int) + 1) = ((n + 1 : Nat) : Int) := by rw [w64 (by omega) (by omega)]; omega
theorem evSome {α : Type} (r : α) : Ev (fun _ : Nat => some r) r := ⟨0, fun _ _ => rfl⟩
theorem evOf {α : Type} {f : Option α} {r : α} (h : f = some r) : Ev (fun _ : Nat => f) r := ⟨0, fun _ _ => h⟩
theorem evUniq {α : Type} {g : Nat → Option α} {r q : α} (h : Ev g r) (k : Ev g q) : r = q := by
  obtain ⟨a, ha⟩ := h
  obtain ⟨b, hb⟩ := k
  have h1 := ha (a + b) (by omega)
  rw [hb (a + b) (by omega)] at h1
  exact (Option.some.inj h1).symm
theorem evIf {α : Type} {c : Prop} [Decidable c] {f g : Nat → Option α} {r : α} (hp : c → Ev f r) (hn : ¬ c → Ev g r) : Ev (fun k => if c then f k else g k) r := by
  by_cases h : c
  · simp only [if_pos h]; exact hp h
  · simp only [if_neg h]; exact hn h
theorem evT {α : Type} {c : Prop} [Decidable c] {f g : Nat → Option α} {r : α} (h : c) (hp : Ev f r) : Ev (fun k => if c then f k else g k) r := by
  simp only [if_pos h]; exact hp
theorem evF {α : Type} {c : Prop} [Decidable c] {f g : Nat → Option α} {r : α} (h : ¬ c) (hp : Ev g r) : Ev (fun k => if c then f k else g k) r := by
  simp only [if_neg h]; exact hp
theorem evB {α β : Type} {f : Option α} {g : Nat → α → Option β} {a : α} {r : β} (h : f = some a) (k : Ev (fun n => g n a) r) : Ev (fun n => f.bind (g n)) r := by
  subst h
  exact k
theorem getD_eq {α : Type} (l : List α) (i : Nat) (z : α) (h : i < l.length) : l.getD i z = l[i] := by
  rw [List.getD_eq_getElem?_getD, List.getElem?_eq_getElem h]; rfl
theorem take_succ' {α : Type} (l : List α) (i : Nat) (h : i < l.length) : l.take (i + 1) = l.take i ++ [l[i]] := by
  rw [List.take_succ_eq_append_getElem h]
theorem set_fill {α : Type} (l : List α) (z x : α) (i d : Nat) (hi : l.length = i) : (l ++ List.replicate (d + 1) z).set i x = l ++ [x] ++ List.replicate d z := by
  subst hi
  rw [List.set_append_right _ _ (Nat.le_refl _), Nat.sub_self, List.replicate_succ, List.set_cons_zero, List.append_assoc]
  rfl
theorem drop_cons {α : Type} (l : List α) (i : Nat) (h : i < l.length) : l.drop i = l[i] :: l.drop (i + 1) := List.drop_eq_getElem_cons h
/-! l01In -/
theorem l01In_t {a lo hi : Int} (h0 : lo ≤ a) (h1 : a ≤ hi) : spec_l01In.f a lo hi = some true := by unfold spec_l01In.f; rw [if_pos h0]; simp [h1]
theorem l01In_f {a lo hi : Int} (h : ¬ (lo ≤ a ∧ a ≤ hi)) : spec_l01In.f a lo hi = some false := by
  unfold spec_l01In.f
  by_cases h0 : lo ≤ a
  · rw [if_pos h0]; simp; omega
  · rw [if_neg h0]
theorem l01In_eq (a lo hi : Int) : spec_l01In.f a lo hi = some (decide (lo ≤ a ∧ a ≤ hi)) := by
  by_cases h : lo ≤ a ∧ a ≤ hi
  · rw [l01In_t h.1 h.2]; simp [h]
  · rw [l01In_f h]; simp; omega
/-! within -/
theorem within_t {a lo hi : Int} (h0 : lo ≤ a) (h1 : a ≤ hi) : impl_within.f a lo hi = some true := by unfold impl_within.f; rw [if_pos h0]; simp [h1]
theorem within_f {a lo hi : Int} (h : ¬ (lo ≤ a ∧ a ≤ hi)) : impl_within.f a lo hi = some false := by
  unfold impl_within.f
  by_cases h0 : lo ≤ a
  · rw [if_pos h0]; simp; omega
  · rw [if_neg h0]
theorem within_eq (a lo hi : Int) : impl_within.f a lo hi = some (decide (lo ≤ a ∧ a ≤ hi)) := by
  by_cases h : lo ≤ a ∧ a ≤ hi
  · rw [within_t h.1 h.2]; simp [h]
  · rw [within_f h]; simp; omega
/-! fmtBase -/
def I64' (x : Int) : Prop := -9223372036854775808 ≤ x ∧ x ≤ 9223372036854775807
def itob (n : Int) : ByteArray := ⟨(Lib.itoa n).toArray⟩
theorem ba_ext {a b : ByteArray} (h : a.data.toList = b.data.toList) : a = b := by
  obtain ⟨⟨a⟩⟩ := a
  obtain ⟨⟨b⟩⟩ := b
  exact congrArg (fun l => (⟨⟨l⟩⟩ : ByteArray)) h
theorem ba_size (l : List UInt8) : (⟨l.toArray⟩ : ByteArray).size = l.length := by show l.toArray.size = _; exact List.size_toArray
theorem ba_size' (b : ByteArray) : b.size = b.data.toList.length := by rw [Array.length_toList]; rfl
theorem ba_app (a b : List UInt8) : (⟨a.toArray⟩ : ByteArray) ++ (⟨b.toArray⟩ : ByteArray) = ⟨(a ++ b).toArray⟩ := by
  apply ba_ext
  rw [ByteArray.data_append, Array.toList_append]
theorem ba_app_l (a b : ByteArray) : (a ++ b).data.toList = a.data.toList ++ b.data.toList := by rw [ByteArray.data_append, Array.toList_append]
theorem itob_data (n : Int) : (itob n).data.toList = Lib.itoa n := rfl
theorem one_num (d : Nat) (h : d < 10) : strOfNums [((48 + d : Nat) : Int)] = ⟨([UInt8.ofNat (48 + d)] : List UInt8).toArray⟩ := by
  apply ba_ext
  rw [strOfNums_data, List.map_cons, List.map_nil, Int.toNat_natCast]
theorem dec_len : ∀ (k u : Nat), 1 ≤ k → u < 10 ^ k → (Lib.decDigits u).length ≤ k
  | 0, u, h, _ => by omega
  | k + 1, u, _, h => by
    rw [Lib.decDigits]
    split
    · simp
    · rename_i h9
      rw [List.length_append, List.length_singleton]
      have hk : 1 ≤ k := by
        cases k with
        | zero => simp at h; omega
        | succ k => omega
      have := dec_len k (u / 10) hk (by rw [Nat.pow_succ] at h; omega)
      omega
theorem itoa_len (n : Int) (h : I64' n) : (Lib.itoa n).length ≤ 20 := by
  unfold I64' at h
  unfold Lib.itoa
  split
  · have := dec_len 19 n.natAbs (by decide) (by omega)
    rw [List.length_cons]; omega
  · have := dec_len 19 n.toNat (by decide) (by omega)
    omega
/-! fmtInt -/
theorem one_ch (u : Nat) (h9 : u < 10) : (wrap64 (48 + (u : Int))) % 256 = ((48 + u : Nat) : Int) := by rw [w64 (by omega) (by omega)]; omega
theorem fmt_l0 : ∀ (m : Nat) (u : Nat) (acc : List UInt8), u < 10 ^ (m + 1) → acc.length + m ≤ 1000 → u < 9223372036854775808 → Ev (fun k => spec_FormatInt.l0 k (u : Int) ⟨acc.toArray⟩) ⟨(Lib.decDigits u ++ acc).toArray⟩ := by
  intro m
  induction m with
  | zero =>
    intro u acc hu h2 h1
    have h9 : u < 10 := by simpa using hu
    refine Ev.step (fun k => by rw [spec_FormatInt.l0]) ?_
    refine evF (by omega) ?_
    rw [one_ch u h9]
    refine evB rfl ?_
    rw [one_num u h9]
    refine evT (by rw [ba_size, ba_size]; simp; omega) ?_
    rw [ba_app, Lib.decDigits, dif_pos h9]
    exact evSome _
  | succ m ih =>
    intro u acc hu h2 h1
    refine Ev.step (fun k => by rw [spec_FormatInt.l0]) ?_
    by_cases h9 : u < 10
    · refine evF (by omega) ?_
      rw [one_ch u h9]
      refine evB rfl ?_
      rw [one_num u h9]
      refine evT (by rw [ba_size, ba_size]; simp; omega) ?_
      rw [ba_app, Lib.decDigits, dif_pos h9]
      exact evSome _
    · refine evT (by omega) ?_
      have e0 : Int.tmod (u : Int) 10 = ((u % 10 : Nat) : Int) := by rw [Int.tmod_eq_emod_of_nonneg (by omega)]; omega
      have e1 : Int.tdiv (u : Int) 10 = ((u / 10 : Nat) : Int) := by rw [Int.tdiv_eq_ediv_of_nonneg (by omega)]; omega
      rw [e0, e1, one_ch _ (by omega), w64 (x := ((u / 10 : Nat) : Int)) (by omega) (by omega)]
      refine evB rfl ?_
      rw [one_num (u % 10) (by omega)]
      refine evT (by rw [ba_size, ba_size]; simp; omega) ?_
      rw [ba_app]
      have := ih (u / 10) ([UInt8.ofNat (48 + u % 10)] ++ acc) (by rw [Nat.pow_succ] at hu; omega) (by simp; omega) (by omega)
      rw [Lib.decDigits, dif_neg h9, List.append_assoc]
      exact this
theorem fmt_neg : ∀ (m : Nat) (u : Nat), 1 ≤ u → u < 10 ^ (m + 1) → u ≤ 9223372036854775808 → m ≤ 30 → Ev (fun k => spec_FormatInt.f k (-(u : Int))) ⟨(45 :: Lib.decDigits u).toArray⟩ := by
  intro m
  induction m with
  | zero =>
    intro u h0 hu h1 hm
    have h9 : u < 10 := by simpa using hu
    refine Ev.step (fun k => by rw [spec_FormatInt.f]) ?_
    refine evT (by omega) ?_
    have e1 : Int.tdiv (-(u : Int)) 10 = 0 := by rw [Int.neg_tdiv, Int.tdiv_eq_ediv_of_nonneg (by omega)]; omega
    rw [e1]
    refine evT (w64 (by omega) (by omega)) ?_
    have e : (48 - (-(u : Int))) = 48 + (u : Int) := by omega
    rw [e, one_ch u h9]
    refine evB rfl ?_
    rw [one_num u h9]
    refine evT (by rw [ba_size]; simp) ?_
    rw [Lib.decDigits, dif_pos h9]
    exact evSome _
  | succ m ih =>
    intro u h0 hu h1 hm
    refine Ev.step (fun k => by rw [spec_FormatInt.f]) ?_
    refine evT (by omega) ?_
    have e1 : Int.tdiv (-(u : Int)) 10 = -((u / 10 : Nat) : Int) := by rw [Int.neg_tdiv, Int.tdiv_eq_ediv_of_nonneg (by omega)]; omega
    have e0 : Int.tmod (-(u : Int)) 10 = -((u % 10 : Nat) : Int) := by rw [Int.neg_tmod, Int.tmod_eq_emod_of_nonneg (by omega)]; omega
    rw [e1, e0, w64 (x := -((u / 10 : Nat) : Int)) (by omega) (by omega)]
    by_cases h9 : u < 10
    · refine evT (by omega) ?_
      have e : (48 - (-(u : Int))) = 48 + (u : Int) := by omega
      rw [e, one_ch u h9]
      refine evB rfl ?_
      rw [one_num u h9]
      refine evT (by rw [ba_size]; simp) ?_
      rw [Lib.decDigits, dif_pos h9]
      exact evSome _
    · refine evF (by omega) ?_
      refine Ev.bind (ih (u / 10) (by omega) (by rw [Nat.pow_succ] at hu; omega) (by omega) (by omega)) ?_
      have e : (48 - (-((u % 10 : Nat) : Int))) = 48 + ((u % 10 : Nat) : Int) := by omega
      rw [e, one_ch _ (by omega)]
      refine evB rfl ?_
      rw [one_num (u % 10) (by omega)]
      have hl := dec_len (m + 1) (u / 10) (by omega) (by rw [Nat.pow_succ] at hu; omega)
      refine evT (by rw [ba_size, ba_size]; simp; omega) ?_
      rw [ba_app]
      have e3 : Lib.decDigits u = Lib.decDigits (u / 10) ++ [UInt8.ofNat (48 + u % 10)] := by rw [Lib.decDigits, dif_neg h9]
      rw [e3, ← List.cons_append]
      exact evSome _
theorem spec_fmt_ev (n : Int) (h : I64' n) : Ev (fun k => spec_FormatInt.f k n) (itob n) := by
  unfold I64' at h
  unfold itob Lib.itoa
  by_cases h0 : n < 0
  · rw [if_pos h0]
    have := fmt_neg 18 n.natAbs (by omega) (by omega) (by omega) (by omega)
    rwa [show -((n.natAbs : Nat) : Int) = n by omega] at this
  · rw [if_neg h0]
    refine Ev.step (fun k => by rw [spec_FormatInt.f]) ?_
    refine evF h0 ?_
    have := fmt_l0 18 n.toNat [] (by omega) (by simp) (by omega)
    rwa [show ((n.toNat : Nat) : Int) = n by omega, List.append_nil] at this
/-! fmtImpl -/
theorem impl_fmt (n : Int) (h : I64' n) : impl_FormatInt.f n = some (itob n) := by
  unfold impl_FormatInt.f
  exact if_pos h
/-! joinBase -/
theorem join_len (xs : List (List UInt8)) (sep : List UInt8) (h : ∀ x ∈ xs, x.length ≤ 100000) (hs : sep.length ≤ 100000) : (Lib.join xs sep).length ≤ 200000 * xs.length := by
  cases xs with
  | nil => simp [Lib.join]
  | cons x r =>
    rw [Lib.join_cons, List.length_append, Lib.joinTail_length, List.length_cons]
    have h1 : Lib.lens r ≤ 100000 * r.length := by
      have hr : ∀ y ∈ r, y.length ≤ 100000 := fun y hy => h y (List.mem_cons_of_mem _ hy)
      clear h
      induction r with
      | nil => simp [Lib.lens]
      | cons y r ih =>
        have := ih (fun z hz => hr z (List.mem_cons_of_mem _ hz))
        have h2 := hr y List.mem_cons_self
        unfold Lib.lens at this ⊢
        simp only [List.map_cons, List.sum_cons, List.length_cons]
        omega
    have h2 := h x List.mem_cons_self
    have h3 : sep.length * r.length ≤ 100000 * r.length := Nat.mul_le_mul_right _ hs
    omega
theorem join_snoc (xs : List (List UInt8)) (sep y : List UInt8) (h : xs ≠ []) : Lib.join (xs ++ [y]) sep = Lib.join xs sep ++ sep ++ y := by
  cases xs with
  | nil => exact absurd rfl h
  | cons x r =>
    rw [List.cons_append, Lib.join_cons, Lib.join_cons]
    simp [Lib.joinTail]
/-! joinSpec -/
def joinB (l : List ByteArray) (sep : ByteArray) : ByteArray := ⟨(Lib.join (l.map (·.data.toList)) sep.data.toList).toArray⟩
theorem joinB_one (x sep : ByteArray) : joinB [x] sep = x := by
  apply ba_ext
  simp [joinB, Lib.join_one]
theorem joinB_snoc (l : List ByteArray) (sep x : ByteArray) (h : l ≠ []) : joinB (l ++ [x]) sep = joinB l sep ++ sep ++ x := by
  apply ba_ext
  unfold joinB
  rw [List.map_append, List.map_cons, List.map_nil, join_snoc _ _ _ (by simpa using h)]
  simp
theorem joinB_size (l : List ByteArray) (sep : ByteArray) (h : ∀ x ∈ l, x.size ≤ 100000) (hs : sep.size ≤ 100000) : (joinB l sep).size ≤ 200000 * l.length := by
  unfold joinB
  rw [ba_size]
  have := join_len (l.map (·.data.toList)) sep.data.toList (by
    intro x hx
    obtain ⟨y, hy, rfl⟩ := List.mem_map.1 hx
    have := h y hy
    rwa [ba_size'] at this) (by rwa [ba_size'] at hs)
  simpa using this
theorem join_l0 (l : List ByteArray) (sep : ByteArray) (h : ∀ x ∈ l, x.size ≤ 100000) (hs : sep.size ≤ 100000) (hl : l.length ≤ 1000000) : ∀ d i : Nat, i + d = l.length → Ev (fun k => spec_Join.l0 k sep (joinB (l.take i) sep) l (l.length : Int) (i : Int)) (joinB l sep) := by
  intro d
  induction d with
  | zero =>
    intro i hi
    refine Ev.step (fun k => by rw [spec_Join.l0]) ?_
    refine evF (by omega) ?_
    rw [List.take_of_length_le (by omega)]
    exact evSome _
  | succ d ih =>
    intro i hi
    have hr : rdOf ByteArray.empty l (i : Int) = l[i] := by unfold rdOf; rw [show ((i : Int)).toNat = i from by omega]; exact getD_eq _ _ _ (by omega)
    have hz := joinB_size (l.take i) sep (fun x hx => h x (List.mem_of_mem_take hx)) hs
    rw [List.length_take] at hz
    have hx := h l[i] (List.getElem_mem _)
    have hs1 : (joinB (l.take i) sep ++ sep).size = (joinB (l.take i) sep).size + sep.size := ByteArray.size_append
    have ih' := ih (i + 1) (by omega)
    refine Ev.step (fun k => by rw [spec_Join.l0]) ?_
    refine evT (by omega) (evT (by omega) (evT (by omega) ?_))
    rw [hr, w64s i (by omega)]
    rw [take_succ' l i (by omega)] at ih'
    by_cases h0 : i = 0
    · subst h0
      refine evF (by omega) ?_
      have e0 : joinB (List.take 0 l) sep = ByteArray.empty := rfl
      have e1 : List.take 0 l = [] := rfl
      rw [e1, List.nil_append, joinB_one] at ih'
      rw [e0] at hz ⊢
      refine evT (by rw [ByteArray.size_empty]; omega) ?_
      rw [ByteArray.empty_append]
      exact ih'
    · have hne : l.take i ≠ [] := by
        intro e
        have := congrArg List.length e
        rw [List.length_take, List.length_nil] at this
        omega
      rw [joinB_snoc _ _ _ hne] at ih'
      exact evT (by omega) (evT (by omega) (evT (by omega) ih'))
theorem spec_join_ev (l : List ByteArray) (sep : ByteArray) (h : ∀ x ∈ l, x.size ≤ 100000) (hs : sep.size ≤ 100000) (hl : l.length ≤ 1000000) : Ev (fun k => spec_Join.f k l sep) (joinB l sep) := by
  unfold spec_Join.f
  exact join_l0 l sep h hs hl l.length 0 (by omega)
/-! joinImpl -/
theorem impl_join (l : List ByteArray) (sep : ByteArray) (h : ∀ x ∈ l, x.size ≤ 100000) (hs : sep.size ≤ 100000) (hl : l.length ≤ 1000000) : impl_Join.f l sep = some (joinB l sep) := by
  have hz := joinB_size l sep h hs
  have h1 : strings_Join.f l sep = some (joinB l sep) := by
    unfold strings_Join.f
    unfold joinB at hz
    rw [ba_size] at hz
    exact if_pos ⟨by omega, by omega⟩
  unfold impl_Join.f
  rw [h1]
  rfl
/-! orDash -/
def dashB (l : List ByteArray) (sep : ByteArray) : ByteArray := if l = [] then ⟨#[45]⟩ else joinB l sep
theorem impl_dash (l : List ByteArray) (sep : ByteArray) (h : ∀ x ∈ l, x.size ≤ 100000) (hs : sep.size ≤ 100000) (hl : l.length ≤ 1000000) : impl_orDash.f l sep = some (dashB l sep) := by
  unfold impl_orDash.f dashB
  by_cases h0 : l = []
  · rw [if_pos (by rw [h0]; rfl), if_pos h0]
  · have : ¬ (l.length : Int) = 0 := by
      have := List.length_pos_iff.2 h0
      omega
    rw [if_neg this, if_neg h0, impl_join l sep h hs hl]
    rfl
/-! fmtNumbers -/
def numsB (l : List Int) : ByteArray := if 40 < l.length then ⟨#[]⟩ else dashB (l.map itob) ⟨#[44]⟩
theorem words_small (l : List Int) (h : ∀ x ∈ l, I64' x) : ∀ x ∈ l.map itob, x.size ≤ 100000 := by
  intro x hx
  obtain ⟨y, hy, rfl⟩ := List.mem_map.1 hx
  have := itoa_len y (h y hy)
  unfold itob
  rw [ba_size]
  omega
theorem spec_nums_l0 (l : List Int) (h : ∀ x ∈ l, I64' x) (hl : l.length ≤ 40) : ∀ d i : Nat, i + d = l.length → Ev (fun k => spec_FormatNumbers.l0 k ((l.take i).map itob) l (l.length : Int) (i : Int)) (dashB (l.map itob) ⟨#[44]⟩) := by
  intro d
  induction d with
  | zero =>
    intro i hi
    refine Ev.step (fun k => by rw [spec_FormatNumbers.l0]) ?_
    refine evF (by omega) ?_
    rw [List.take_of_length_le (by omega)]
    unfold dashB
    by_cases h0 : l = []
    · subst h0
      exact evT (by simp) (by rw [if_pos (by simp)]; exact evSome _)
    · have : ¬ ((l.map itob).length : Int) = 0 := by
        have := List.length_pos_iff.2 h0
        rw [List.length_map]
        omega
      refine evF this ?_
      rw [if_neg (by simpa using h0)]
      exact Ev.bind (spec_join_ev _ _ (words_small l h) (by decide) (by rw [List.length_map]; omega)) (evSome _)
  | succ d ih =>
    intro i hi
    have hr : rd l (i : Int) = l[i] := by unfold rd; rw [show ((i : Int)).toNat = i from by omega]; exact getD_eq _ _ _ (by omega)
    have ih' := ih (i + 1) (by omega)
    rw [take_succ' l i (by omega), List.map_append, List.map_cons, List.map_nil] at ih'
    refine Ev.step (fun k => by rw [spec_FormatNumbers.l0]) ?_
    refine evT (by omega) (evT (by omega) (evT (by omega) ?_))
    rw [hr, w64s i (by omega)]
    refine Ev.bind (spec_fmt_ev _ (h _ (List.getElem_mem _))) ?_
    exact evT (by rw [List.length_map, List.length_take]; omega) ih'
theorem spec_nums_ev (l : List Int) (h : ∀ x ∈ l, I64' x) (hl : l.length ≤ 9223372036854775807) : Ev (fun k => spec_FormatNumbers.f k l) (numsB l) := by
  unfold spec_FormatNumbers.f numsB
  by_cases h40 : 40 < l.length
  · rw [if_pos h40]
    exact evT (by omega) (evSome _)
  · rw [if_neg h40]
    refine evF (by omega) ?_
    exact spec_nums_l0 l h (by omega) l.length 0 (by omega)
theorem impl_nums_l0 (l : List Int) (h : ∀ x ∈ l, I64' x) (hl : l.length ≤ 40) : ∀ d i : Nat, i + d = l.length → Ev (fun k => impl_FormatNumbers.l0 k ((l.take i).map itob) l (l.length : Int) (i : Int)) (dashB (l.map itob) ⟨#[44]⟩) := by
  intro d
  induction d with
  | zero =>
    intro i hi
    refine Ev.step (fun k => by rw [impl_FormatNumbers.l0]) ?_
    refine evF (by omega) ?_
    rw [List.take_of_length_le (by omega)]
    exact evB (impl_dash _ _ (words_small l h) (by decide) (by rw [List.length_map]; omega)) (evSome _)
  | succ d ih =>
    intro i hi
    have hr : rd l (i : Int) = l[i] := by unfold rd; rw [show ((i : Int)).toNat = i from by omega]; exact getD_eq _ _ _ (by omega)
    have ih' := ih (i + 1) (by omega)
    rw [take_succ' l i (by omega), List.map_append, List.map_cons, List.map_nil] at ih'
    refine Ev.step (fun k => by rw [impl_FormatNumbers.l0]) ?_
    refine evT (by omega) (evT (by omega) (evT (by omega) ?_))
    rw [hr, w64s i (by omega)]
    refine evB (impl_fmt _ (h _ (List.getElem_mem _))) ?_
    exact evT (by rw [List.length_map, List.length_take]; omega) ih'
theorem impl_nums_ev (l : List Int) (h : ∀ x ∈ l, I64' x) (hl : l.length ≤ 9223372036854775807) : Ev (fun k => impl_FormatNumbers.f k l) (numsB l) := by
  unfold impl_FormatNumbers.f numsB
  by_cases h40 : 40 < l.length
  · rw [if_pos h40]
    exact evT (by omega) (evSome _)
  · rw [if_neg h40]
    refine evF (by omega) ?_
    exact impl_nums_l0 l h (by omega) l.length 0 (by omega)
/-! sqBase -/
def fA (G : Nat → Nat → Int) (a b : Nat) : Nat → Int → Int
  | 0, x => x
  | k + 1, x => mn (fA G a b k x) (wrap64 (G (k + 1) b + G (a - (k + 1)) b))
def fB (G : Nat → Nat → Int) (a b : Nat) : Nat → Int → Int
  | 0, x => x
  | k + 1, x => mn (fB G a b k x) (wrap64 (G a (k + 1) + G a (b - (k + 1))))
def cellW (G : Nat → Nat → Int) (a b : Nat) : Int := fB G a b (b - 1) (fA G a b (a - 1) (if a = b then 1 else wrap64 ((a : Int) * (b : Int))))
theorem fA_congr {G H : Nat → Nat → Int} {a b : Nat} (h : ∀ k, 1 ≤ k → k < a → G k b = H k b) (x : Int) : ∀ j, j ≤ a - 1 → fA G a b j x = fA H a b j x
  | 0, _ => rfl
  | j + 1, hj => by rw [fA, fA, fA_congr h x j (by omega), h (j + 1) (by omega) (by omega), h (a - (j + 1)) (by omega) (by omega)]
theorem fB_congr {G H : Nat → Nat → Int} {a b : Nat} (h : ∀ k, 1 ≤ k → k < b → G a k = H a k) (x : Int) : ∀ j, j ≤ b - 1 → fB G a b j x = fB H a b j x
  | 0, _ => rfl
  | j + 1, hj => by rw [fB, fB, fB_congr h x j (by omega), h (j + 1) (by omega) (by omega), h (b - (j + 1)) (by omega) (by omega)]
theorem cellW_congr {G H : Nat → Nat → Int} {a b : Nat} (h1 : ∀ k, 1 ≤ k → k < a → G k b = H k b) (h2 : ∀ k, 1 ≤ k → k < b → G a k = H a k) : cellW G a b = cellW H a b := by
  unfold cellW
  rw [fA_congr h1 _ _ (Nat.le_refl _), fB_congr h2 _ _ (Nat.le_refl _)]
def IsF (G : Nat → Nat → Int) (w h : Nat) : Prop := ∀ a b, 1 ≤ a → a ≤ w → 1 ≤ b → b ≤ h → G a b = cellW G a b
theorem sq_uniq {G H : Nat → Nat → Int} {w h : Nat} (hG : IsF G w h) (hH : IsF H w h) : ∀ s a b, a + b ≤ s → 1 ≤ a → a ≤ w → 1 ≤ b → b ≤ h → G a b = H a b
  | 0, a, b, hs, h1, _, _, _ => by omega
  | s + 1, a, b, hs, h1, h2, h3, h4 => by
    rw [hG a b h1 h2 h3 h4, hH a b h1 h2 h3 h4]
    exact cellW_congr (fun k k1 k2 => sq_uniq hG hH s k b (by omega) k1 (by omega) h3 h4) (fun k k1 k2 => sq_uniq hG hH s a k (by omega) h1 h2 k1 (by omega))
theorem mn_I {a b : Int} (ha : I64' a) (hb : I64' b) : I64' (mn a b) := by unfold mn; split <;> assumption
theorem w_I (a : Int) : I64' (wrap64 a) := by unfold I64' wrap64; omega
theorem fA_I (G : Nat → Nat → Int) (a b : Nat) {x : Int} (hx : I64' x) : ∀ j, I64' (fA G a b j x)
  | 0 => hx
  | j + 1 => mn_I (fA_I G a b hx j) (w_I _)
theorem fB_I (G : Nat → Nat → Int) (a b : Nat) {x : Int} (hx : I64' x) : ∀ j, I64' (fB G a b j x)
  | 0 => hx
  | j + 1 => mn_I (fB_I G a b hx j) (w_I _)
theorem cellW_I (G : Nat → Nat → Int) (a b : Nat) : I64' (cellW G a b) := by
  unfold cellW
  refine fB_I _ _ _ (fA_I _ _ _ ?_ _) _
  split
  · unfold I64'; omega
  · exact w_I _
theorem gset_eq {xs : List Int} {i : Nat} (h : i < xs.length) (v : Int) : (xs.set i v).getD i 0 = v := by
  rw [List.getD_eq_getElem?_getD, List.getElem?_set_self h]; rfl
theorem gset_ne {xs : List Int} {i j : Nat} (h : i ≠ j) (v : Int) : (xs.set i v).getD j 0 = xs.getD j 0 := by
  rw [List.getD_eq_getElem?_getD, List.getElem?_set_ne h, List.getD_eq_getElem?_getD]
theorem ix_inj {N a b a' b' : Nat} (hb : b < N) (hb' : b' < N) (h : a * N + b = a' * N + b') : a = a' ∧ b = b' := by
  have h1 : (a * N + b) / N = a := by rw [Nat.mul_comm, Nat.mul_add_div (by omega), Nat.div_eq_of_lt hb, Nat.add_zero]
  have h2 : (a' * N + b') / N = a' := by rw [Nat.mul_comm, Nat.mul_add_div (by omega), Nat.div_eq_of_lt hb', Nat.add_zero]
  have e : a = a' := by rw [← h1, ← h2, h]
  subst e
  exact ⟨rfl, by omega⟩
theorem ix_lt {N a b : Nat} (ha : a < N) (hb : b < N) : a * N + b < N * N := by
  have : (a + 1) * N ≤ N * N := Nat.mul_le_mul_right N ha
  rw [Nat.add_mul, Nat.one_mul] at this
  omega
/-- The list as a table. -/
def tb (N : Nat) (xs : List Int) (a b : Nat) : Int := xs.getD (a * N + b) 0
theorem tb_set_eq {N : Nat} {xs : List Int} {a b : Nat} (hl : xs.length = N * N) (ha : a < N) (hb : b < N) (v : Int) : tb N (xs.set (a * N + b) v) a b = v :=
  gset_eq (by rw [hl]; exact ix_lt ha hb) v
theorem tb_set_ne {N : Nat} {xs : List Int} {a b a' b' : Nat} (hb : b < N) (hb' : b' < N) (h : ¬ (a' = a ∧ b' = b)) (v : Int) : tb N (xs.set (a * N + b) v) a' b' = tb N xs a' b' :=
  gset_ne (fun e => h (by have := ix_inj hb hb' e; exact ⟨this.1.symm, this.2.symm⟩)) v
/-! sqImpl -/
theorem isq_kA (xs : List Int) (hl : xs.length = 961) (a b : Nat) (ha : a < 31) (hb : b < 31) (h1 : 1 ≤ a) : ∀ j, j ≤ a - 1 → tb 31 (impl_FewestSquares.kA xs a b j) a b = fA (tb 31 xs) a b j (tb 31 xs a b) ∧ ∀ a' b', b' < 31 → ¬ (a' = a ∧ b' = b) → tb 31 (impl_FewestSquares.kA xs a b j) a' b' = tb 31 xs a' b'
  | 0, _ => ⟨rfl, fun _ _ _ _ => rfl⟩
  | j + 1, hj => by
    obtain ⟨e1, e2⟩ := isq_kA xs hl a b ha hb h1 j (by omega)
    have hlen : (impl_FewestSquares.kA xs a b j).length = 31 * 31 := by rw [impl_FewestSquares.kA_len, hl]
    rw [impl_FewestSquares.kA]
    refine ⟨?_, fun a' b' hb' hne => ?_⟩
    · rw [tb_set_eq hlen ha hb]
      show mn (tb 31 (impl_FewestSquares.kA xs a b j) a b) (wrap64 (tb 31 (impl_FewestSquares.kA xs a b j) (j + 1) b + tb 31 (impl_FewestSquares.kA xs a b j) (a - (j + 1)) b)) = _
      rw [e1, e2 (j + 1) b hb (by omega), e2 (a - (j + 1)) b hb (by omega)]
      rfl
    · rw [tb_set_ne hb hb' hne, e2 a' b' hb' hne]
theorem isq_kB (xs : List Int) (hl : xs.length = 961) (a b : Nat) (ha : a < 31) (hb : b < 31) (h1 : 1 ≤ b) : ∀ j, j ≤ b - 1 → tb 31 (impl_FewestSquares.kB xs a b j) a b = fB (tb 31 xs) a b j (tb 31 xs a b) ∧ ∀ a' b', b' < 31 → ¬ (a' = a ∧ b' = b) → tb 31 (impl_FewestSquares.kB xs a b j) a' b' = tb 31 xs a' b'
  | 0, _ => ⟨rfl, fun _ _ _ _ => rfl⟩
  | j + 1, hj => by
    obtain ⟨e1, e2⟩ := isq_kB xs hl a b ha hb h1 j (by omega)
    have hlen : (impl_FewestSquares.kB xs a b j).length = 31 * 31 := by rw [impl_FewestSquares.kB_len, hl]
    rw [impl_FewestSquares.kB]
    refine ⟨?_, fun a' b' hb' hne => ?_⟩
    · rw [tb_set_eq hlen ha hb]
      show mn (tb 31 (impl_FewestSquares.kB xs a b j) a b) (wrap64 (tb 31 (impl_FewestSquares.kB xs a b j) a (j + 1) + tb 31 (impl_FewestSquares.kB xs a b j) a (b - (j + 1)))) = _
      rw [e1, e2 a (j + 1) (by omega) (by omega), e2 a (b - (j + 1)) (by omega) (by omega)]
      rfl
    · rw [tb_set_ne hb hb' hne, e2 a' b' hb' hne]
theorem isq_first (xs : List Int) (hl : xs.length = 961) (a b : Nat) (ha : a < 31) (hb : b < 31) : (impl_FewestSquares.first xs a b).length = 961 ∧ tb 31 (impl_FewestSquares.first xs a b) a b = (if a = b then 1 else wrap64 ((a : Int) * (b : Int))) ∧ ∀ a' b', b' < 31 → ¬ (a' = a ∧ b' = b) → tb 31 (impl_FewestSquares.first xs a b) a' b' = tb 31 xs a' b' := by
  unfold impl_FewestSquares.first
  by_cases e : a = b
  · rw [if_pos e, if_pos e]
    exact ⟨by rw [List.length_set, List.length_set, hl], tb_set_eq (by rw [List.length_set, hl]) ha hb _, fun a' b' hb' hne => by rw [tb_set_ne hb hb' hne, tb_set_ne hb hb' hne]⟩
  · rw [if_neg e, if_neg e]
    exact ⟨by rw [List.length_set, hl], tb_set_eq hl ha hb _, fun a' b' hb' hne => by rw [tb_set_ne hb hb' hne]⟩
theorem isq_cell (xs : List Int) (hl : xs.length = 961) (a b : Nat) (ha : a < 31) (hb : b < 31) (h1 : 1 ≤ a) (h2 : 1 ≤ b) : (impl_FewestSquares.cell xs a b).length = 961 ∧ tb 31 (impl_FewestSquares.cell xs a b) a b = cellW (tb 31 xs) a b ∧ ∀ a' b', b' < 31 → ¬ (a' = a ∧ b' = b) → tb 31 (impl_FewestSquares.cell xs a b) a' b' = tb 31 xs a' b' := by
  obtain ⟨f0, f1, f2⟩ := isq_first xs hl a b ha hb
  obtain ⟨a1, a2⟩ := isq_kA (impl_FewestSquares.first xs a b) f0 a b ha hb h1 (a - 1) (Nat.le_refl _)
  have hk : (impl_FewestSquares.kA (impl_FewestSquares.first xs a b) a b (a - 1)).length = 961 := by rw [impl_FewestSquares.kA_len, f0]
  obtain ⟨b1, b2⟩ := isq_kB (impl_FewestSquares.kA (impl_FewestSquares.first xs a b) a b (a - 1)) hk a b ha hb h2 (b - 1) (Nat.le_refl _)
  unfold impl_FewestSquares.cell
  refine ⟨by rw [impl_FewestSquares.kB_len, hk], ?_, fun a' b' hb' hne => by rw [b2 a' b' hb' hne, a2 a' b' hb' hne, f2 a' b' hb' hne]⟩
  rw [b1, a1, f1]
  unfold cellW
  rw [fA_congr (H := tb 31 xs) (fun k k1 k2 => f2 k b hb (by omega)) _ _ (Nat.le_refl _), fB_congr (H := tb 31 xs) (fun k k1 k2 => by rw [a2 a k (by omega) (by omega), f2 a k (by omega) (by omega)]) _ _ (Nat.le_refl _)]
def DoneL (xs : List Int) (h i j : Nat) : Prop := xs.length = 961 ∧ ∀ a b, 1 ≤ a → a ≤ 30 → 1 ≤ b → b ≤ h → (a < i ∨ (a = i ∧ b ≤ j)) → tb 31 xs a b = cellW (tb 31 xs) a b
theorem isq_row (xs : List Int) (h i : Nat) (hh : h ≤ 30) (hi : 1 ≤ i ∧ i ≤ 30) (hx : DoneL xs h i 0) : ∀ j, j ≤ h → DoneL (impl_FewestSquares.row xs i j) h i j
  | 0, _ => hx
  | j + 1, hj => by
    obtain ⟨l1, d1⟩ := isq_row xs h i hh hi hx j (by omega)
    rw [impl_FewestSquares.row]
    obtain ⟨c0, c1, c2⟩ := isq_cell (impl_FewestSquares.row xs i j) l1 i (j + 1) (by omega) (by omega) hi.1 (by omega)
    refine ⟨c0, fun a b p1 p2 p3 p4 hd => ?_⟩
    by_cases e : a = i ∧ b = j + 1
    · obtain ⟨rfl, rfl⟩ := e
      rw [c1]
      exact (cellW_congr (fun k k1 k2 => c2 k _ (by omega) (by omega)) (fun k k1 k2 => c2 _ k (by omega) (by omega))).symm
    · rw [c2 a b (by omega) e, d1 a b p1 p2 p3 p4 (by omega)]
      exact (cellW_congr (fun k k1 k2 => c2 k b (by omega) (by omega)) (fun k k1 k2 => c2 a k (by omega) (by omega))).symm
theorem isq_tab (h : Nat) (hh : h ≤ 30) : ∀ i, i ≤ 30 → DoneL (impl_FewestSquares.tab h i) h (i + 1) 0
  | 0, _ => ⟨List.length_replicate .., fun a b p1 p2 p3 p4 hd => by omega⟩
  | i + 1, hi => by
    have ih := isq_tab h hh i (by omega)
    have r := isq_row (impl_FewestSquares.tab h i) h (i + 1) hh (by omega) ih h (Nat.le_refl _)
    exact ⟨r.1, fun a b p1 p2 p3 p4 hd => r.2 a b p1 p2 p3 p4 (by omega)⟩
theorem isq_F (w h : Nat) (hw : w ≤ 30) (hh : h ≤ 30) : IsF (tb 31 (impl_FewestSquares.tab h w)) w h := fun a b h1 h2 h3 h4 => (isq_tab h hh w hw).2 a b h1 (by omega) h3 h4 (by omega)
/-! sqSpec -/
theorem ixW {a b N : Nat} (ha : a ≤ 40) (hb : b ≤ 40) (hN : N ≤ 40) : wrap64 (wrap64 ((a : Int) * (N : Int)) + (b : Int)) = ((a * N + b : Nat) : Int) := by
  have h : a * N ≤ 40 * 40 := Nat.mul_le_mul ha hN
  rw [← Int.natCast_mul, w64 (x := ((a * N : Nat) : Int)) (by omega) (by omega), w64 (by omega) (by omega)]
  omega
theorem ixW2 {a b k N : Nat} (ha : a ≤ 40) (hb : b ≤ 40) (hN : N ≤ 40) (hk : k ≤ b) : wrap64 (wrap64 (wrap64 ((a : Int) * (N : Int)) + (b : Int)) - (k : Int)) = ((a * N + (b - k) : Nat) : Int) := by
  have h : a * N ≤ 40 * 40 := Nat.mul_le_mul ha hN
  rw [ixW ha hb hN, w64 (by omega) (by omega)]
  omega
theorem rdtb {N : Nat} (xs : List Int) (a b : Nat) : rd xs ((a * N + b : Nat) : Int) = tb N xs a b := by
  unfold rd tb
  rw [Int.toNat_natCast]
theorem w1 {n : Nat} (h : n ≤ 1000) : wrap64 ((n : Int) + 1) = ((n + 1 : Nat) : Int) := w64s n (by omega)
def DoneS (N n : Nat) (xs : List Int) (s a : Nat) : Prop := xs.length = N * N ∧ ∀ a' b', 1 ≤ a' → a' ≤ n → 1 ≤ b' → b' ≤ n → (a' + b' < s ∨ (a' + b' = s ∧ a' < a)) → tb N xs a' b' = cellW (tb N xs) a' b'
theorem DoneS.put {N n s a b : Nat} {xs : List Int} (h : DoneS N n xs s a) (hN : N = n + 1) (ha : 1 ≤ a ∧ a ≤ n) (hb : 1 ≤ b ∧ b ≤ n) (hs : a + b = s) : DoneS N n (xs.set (a * N + b) (cellW (tb N xs) a b)) s (a + 1) := by
  have c1 := tb_set_eq h.1 (a := a) (b := b) (by omega) (by omega) (cellW (tb N xs) a b)
  have c2 : ∀ a' b', b' < N → ¬ (a' = a ∧ b' = b) → tb N (xs.set (a * N + b) (cellW (tb N xs) a b)) a' b' = tb N xs a' b' := fun a' b' hb' hne => tb_set_ne (by omega) hb' hne _
  refine ⟨by rw [List.length_set]; exact h.1, fun a' b' p1 p2 p3 p4 hd => ?_⟩
  by_cases e : a' = a ∧ b' = b
  · obtain ⟨rfl, rfl⟩ := e
    rw [c1]
    exact (cellW_congr (fun k k1 k2 => c2 k _ (by omega) (by omega)) (fun k k1 k2 => c2 _ k (by omega) (by omega))).symm
  · rw [c2 a' b' (by omega) e, h.2 a' b' p1 p2 p3 p4 (by omega)]
    exact (cellW_congr (fun k k1 k2 => c2 k b' (by omega) (by omega)) (fun k k1 k2 => c2 a' k (by omega) (by omega))).symm
theorem ssq_l3 (w h n s a b : Nat) (xs : List Int) (hl : xs.length = (n + 1) * (n + 1)) (hn : n ≤ 30) (ha : 1 ≤ a ∧ a ≤ n) (hb : 1 ≤ b ∧ b ≤ n) (x : Int) (R : Int)
    (hR : Ev (fun k => spec_FewestSquares.l1 k w h n (xs.set (a * (n + 1) + b) (fB (tb (n + 1) xs) a b (b - 1) x)) s ((a + 1 : Nat) : Int)) R) : ∀ d j, j + d = b - 1 → Ev (fun k => spec_FewestSquares.l3 k w h n xs s a b (fB (tb (n + 1) xs) a b j x) ((j + 1 : Nat) : Int)) R := by
  intro d
  induction d with
  | zero =>
    intro j hj
    have hj : j = b - 1 := by omega
    subst hj
    refine Ev.step (fun k => by rw [spec_FewestSquares.l3]) ?_
    refine evF (by omega) ?_
    rw [w1 (by omega), ixW (by omega) (by omega) (by omega)]
    refine evT (by omega) (evT (by rw [hl]; have := ix_lt (N := n + 1) (a := a) (b := b) (by omega) (by omega); omega) ?_)
    rw [Int.toNat_natCast, w64s a (by omega)]
    exact hR
  | succ d ih =>
    intro j hj
    refine Ev.step (fun k => by rw [spec_FewestSquares.l3]) ?_
    refine evT (by omega) ?_
    rw [w1 (by omega), ixW (b := j + 1) (by omega) (by omega) (by omega), ixW2 (k := j + 1) (by omega) (by omega) (by omega) (by omega), rdtb, rdtb, w64s (j + 1) (by omega)]
    have q1 := ix_lt (N := n + 1) (a := a) (b := j + 1) (by omega) (by omega)
    have q2 := ix_lt (N := n + 1) (a := a) (b := b - (j + 1)) (by omega) (by omega)
    refine evT (by omega) (evT (by rw [hl]; omega) (evT (by omega) (evT (by rw [hl]; omega) ?_)))
    exact ih (j + 1) (by omega)
theorem ssq_l2 (w h n s a b : Nat) (xs : List Int) (hl : xs.length = (n + 1) * (n + 1)) (hn : n ≤ 30) (ha : 1 ≤ a ∧ a ≤ n) (hb : 1 ≤ b ∧ b ≤ n) (x : Int) (R : Int)
    (hR : Ev (fun k => spec_FewestSquares.l3 k w h n xs s a b (fA (tb (n + 1) xs) a b (a - 1) x) 1) R) : ∀ d j, j + d = a - 1 → Ev (fun k => spec_FewestSquares.l2 k w h n xs s a b (fA (tb (n + 1) xs) a b j x) ((j + 1 : Nat) : Int)) R := by
  intro d
  induction d with
  | zero =>
    intro j hj
    have hj : j = a - 1 := by omega
    subst hj
    refine Ev.step (fun k => by rw [spec_FewestSquares.l2]) ?_
    exact evF (by omega) hR
  | succ d ih =>
    intro j hj
    refine Ev.step (fun k => by rw [spec_FewestSquares.l2]) ?_
    refine evT (by omega) ?_
    have e : wrap64 ((a : Int) - ((j + 1 : Nat) : Int)) = ((a - (j + 1) : Nat) : Int) := by rw [w64 (by omega) (by omega)]; omega
    rw [w1 (by omega), e, ixW (a := j + 1) (by omega) (by omega) (by omega), ixW (a := a - (j + 1)) (by omega) (by omega) (by omega), rdtb, rdtb, w64s (j + 1) (by omega)]
    have q1 := ix_lt (N := n + 1) (a := j + 1) (b := b) (by omega) (by omega)
    have q2 := ix_lt (N := n + 1) (a := a - (j + 1)) (b := b) (by omega) (by omega)
    refine evT (by omega) (evT (by rw [hl]; omega) (evT (by omega) (evT (by rw [hl]; omega) ?_)))
    exact ih (j + 1) (by omega)
def SqPost (n w h : Nat) (r : Int) : Prop := ∃ G : Nat → Nat → Int, IsF G n n ∧ r = G w h
theorem ssq_l1 (w h n : Nat) (hn : n ≤ 30) (hN : Nat) (s : Nat) (hs : 2 ≤ s ∧ s ≤ 2 * n) (hR : ∀ ys, DoneS (n + 1) n ys (s + 1) 0 → ∃ r, Ev (fun k => spec_FewestSquares.l0 k w h n ys ((s + 1 : Nat) : Int)) r ∧ SqPost n w h r) :
    ∀ d a xs, a + d = min n (s - 1) + 1 → 1 ≤ a → s - n ≤ a → DoneS (n + 1) n xs s a → ∃ r, Ev (fun k => spec_FewestSquares.l1 k w h n xs s (a : Int)) r ∧ SqPost n w h r := by
  intro d
  induction d with
  | zero =>
    intro a xs hd h1 h2 hD
    obtain ⟨r, e, p⟩ := hR xs ⟨hD.1, fun a' b' p1 p2 p3 p4 hd' => hD.2 a' b' p1 p2 p3 p4 (by omega)⟩
    refine ⟨r, ?_, p⟩
    refine Ev.step (fun k => by rw [spec_FewestSquares.l1]) ?_
    rw [w64 (x := (s : Int) - 1) (by omega) (by omega)]
    refine evF (by unfold mn; split <;> omega) ?_
    rw [w64s s (by omega)]
    exact e
  | succ d ih =>
    intro a xs hd h1 h2 hD
    have hb : 1 ≤ s - a ∧ s - a ≤ n := by omega
    have ha : 1 ≤ a ∧ a ≤ n := by omega
    obtain ⟨r, e, p⟩ := ih (a + 1) _ (by omega) (by omega) (by omega) (hD.put rfl ha hb (by omega))
    refine ⟨r, ?_, p⟩
    refine Ev.step (fun k => by rw [spec_FewestSquares.l1]) ?_
    rw [w64 (x := (s : Int) - 1) (by omega) (by omega)]
    refine evT (by unfold mn; split <;> omega) ?_
    have eb : wrap64 ((s : Int) - (a : Int)) = ((s - a : Nat) : Int) := by rw [w64 (by omega) (by omega)]; omega
    rw [eb]
    have go : ∀ x : Int, x = (if a = s - a then 1 else wrap64 ((a : Int) * ((s - a : Nat) : Int))) → Ev (fun k => spec_FewestSquares.j3 k w h n xs s a ((s - a : Nat) : Int) x) r := by
      intro x hx
      refine Ev.step (fun k => by rw [spec_FewestSquares.j3]) ?_
      have h3 := ssq_l3 w h n s a (s - a) xs hD.1 hn ha hb (fA (tb (n + 1) xs) a (s - a) (a - 1) x) r (by rw [hx]; exact e) (s - a - 1) 0 (by omega)
      exact ssq_l2 w h n s a (s - a) xs hD.1 hn ha hb x r h3 (a - 1) 0 (by omega)
    by_cases c : a = s - a
    · exact evT (by omega) (go 1 (by rw [if_pos c]))
    · exact evF (by omega) (go _ (by rw [if_neg c]))
theorem ssq_l0 (w h n : Nat) (hn : n ≤ 30) (hw : 1 ≤ w ∧ w ≤ n) (hh : 1 ≤ h ∧ h ≤ n) : ∀ d s xs, s + d = 2 * n + 1 → 2 ≤ s → DoneS (n + 1) n xs s 0 → ∃ r, Ev (fun k => spec_FewestSquares.l0 k w h n xs (s : Int)) r ∧ SqPost n w h r := by
  intro d
  induction d with
  | zero =>
    intro s xs hd h2 hD
    refine ⟨tb (n + 1) xs w h, ?_, ⟨tb (n + 1) xs, fun a b p1 p2 p3 p4 => hD.2 a b p1 p2 p3 p4 (by omega), rfl⟩⟩
    refine Ev.step (fun k => by rw [spec_FewestSquares.l0]) ?_
    rw [w64 (x := 2 * (n : Int)) (by omega) (by omega)]
    refine evF (by omega) ?_
    rw [w1 (by omega), ixW (by omega) (by omega) (by omega), rdtb]
    have q1 := ix_lt (N := n + 1) (a := w) (b := h) (by omega) (by omega)
    exact evT (by omega) (evT (by rw [hD.1]; omega) (evSome _))
  | succ d ih =>
    intro s xs hd h2 hD
    obtain ⟨r, e, p⟩ := ssq_l1 w h n hn 0 s (by omega) (fun ys hy => ih (s + 1) ys (by omega) (by omega) hy) (min n (s - 1) + 1 - max 1 (s - n)) (max 1 (s - n)) xs (by omega) (by omega) (by omega) ⟨hD.1, fun a' b' p1 p2 p3 p4 hd' => hD.2 a' b' p1 p2 p3 p4 (by omega)⟩
    refine ⟨r, ?_, p⟩
    refine Ev.step (fun k => by rw [spec_FewestSquares.l0]) ?_
    rw [w64 (x := 2 * (n : Int)) (by omega) (by omega)]
    refine evT (by omega) ?_
    rw [w64 (x := (s : Int) - (n : Int)) (by omega) (by omega)]
    have em : mx 1 ((s : Int) - (n : Int)) = ((max 1 (s - n) : Nat) : Int) := by unfold mx; split <;> omega
    rw [em]
    exact e
/-! sqSame -/
theorem fewest_ev (a0 a1 : Int) : ∃ r, Ev (fun k => spec_FewestSquares.f k a0 a1) r ∧ impl_FewestSquares.f a0 a1 = some r ∧ I64' r := by
  by_cases c : (1 ≤ a0 ∧ a0 ≤ 30) ∧ 1 ≤ a1 ∧ a1 ≤ 30
  · obtain ⟨w, rfl⟩ : ∃ n : Nat, a0 = (n : Int) := ⟨a0.toNat, by omega⟩
    obtain ⟨h, rfl⟩ : ∃ n : Nat, a1 = (n : Int) := ⟨a1.toNat, by omega⟩
    have hm : max w h ≤ 30 := by omega
    have hN : (max w h + 1) * (max w h + 1) ≤ 31 * 31 := Nat.mul_le_mul (by omega) (by omega)
    obtain ⟨r, e, G, hG, hr⟩ := ssq_l0 w h (max w h) hm (by omega) (by omega) (2 * max w h + 1 - 2) 2 (List.replicate ((max w h + 1) * (max w h + 1)) 0) (by omega) (by omega) ⟨List.length_replicate .., fun a b p1 p2 p3 p4 hd => by omega⟩
    have hI := isq_F w h (by omega) (by omega)
    have es : r = tb 31 (impl_FewestSquares.tab h w) w h := by
      rw [hr]
      exact sq_uniq (w := w) (h := h) (fun a b p1 p2 p3 p4 => hG a b p1 (by omega) p3 (by omega)) hI (w + h) w h (Nat.le_refl _) (by omega) (by omega) (by omega) (by omega)
    refine ⟨r, ?_, ?_, ?_⟩
    · unfold spec_FewestSquares.f
      refine evB (l01In_t (by omega) (by omega)) (evT rfl (evB (l01In_t (by omega) (by omega)) ?_))
      refine Ev.step (fun k => by rw [spec_FewestSquares.j0]) ?_
      have em : mx (w : Int) (h : Int) = ((max w h : Nat) : Int) := by unfold mx; split <;> omega
      rw [em, w1 (by omega), ← Int.natCast_mul, w64 (x := (((max w h + 1) * (max w h + 1) : Nat) : Int)) (by omega) (by omega)]
      refine evF (by decide) (evT (by omega) (evT (by omega) ?_))
      rw [Int.toNat_natCast]
      exact e
    · unfold impl_FewestSquares.f impl_FewestSquares.ok
      rw [if_pos ⟨by simp; omega, by simp; omega⟩, es]
      rfl
    · rw [es, hI w h (by omega) (by omega) (by omega) (by omega)]
      exact cellW_I _ _ _
  · refine ⟨-1, ?_, ?_, by unfold I64'; omega⟩
    · unfold spec_FewestSquares.f
      refine evB (l01In_eq _ _ _) ?_
      by_cases c0 : 1 ≤ a0 ∧ a0 ≤ 30
      · refine evT (decide_eq_true c0) (evB (l01In_f (fun h => c ⟨c0, h⟩)) ?_)
        refine Ev.step (fun k => by rw [spec_FewestSquares.j0]) ?_
        exact evT rfl (evSome _)
      · refine evF (by rw [decide_eq_false c0]; decide) ?_
        refine Ev.step (fun k => by rw [spec_FewestSquares.j0]) ?_
        exact evT rfl (evSome _)
    · unfold impl_FewestSquares.f impl_FewestSquares.ok
      rw [if_neg (fun h => c ⟨by simpa using h.1, by simpa using h.2⟩)]
/-! sqGreedy -/
def gsL : Nat → Nat → Nat → List Int
  | 0, _, _ => []
  | n + 1, w, h => if 0 < w ∧ 0 < h then ((min w h : Nat) : Int) :: (if h ≤ w then gsL n (w - h) h else gsL n w (h - w)) else []
theorem gsL_sym : ∀ n w h, gsL n w h = gsL n h w
  | 0, _, _ => rfl
  | n + 1, w, h => by
    rw [gsL, gsL]
    by_cases c : 0 < w ∧ 0 < h
    · have c' : 0 < h ∧ 0 < w := ⟨c.2, c.1⟩
      rw [if_pos c, if_pos c', Nat.min_comm w h]
      by_cases c2 : h ≤ w
      · by_cases c3 : w ≤ h
        · have e : w = h := by omega
          subst e
          rfl
        · rw [if_pos c2, if_neg c3, gsL_sym n (w - h) h]
      · rw [if_neg c2, if_pos (by omega), gsL_sym n w (h - w)]
    · rw [if_neg c, if_neg (fun h' => c ⟨h'.2, h'.1⟩)]
theorem gsL_zero (n w : Nat) : gsL n w 0 = [] := by
  cases n with
  | zero => rfl
  | succ n => rw [gsL, if_neg (fun h => absurd h.2 (Nat.lt_irrefl 0))]
theorem gsL_len : ∀ n w h, w + h ≤ n → (gsL n w h).length ≤ w + h
  | 0, _, _, _ => Nat.zero_le _
  | n + 1, w, h, hn => by
    rw [gsL]
    split
    · rename_i c
      rw [List.length_cons]
      split
      · have := gsL_len n (w - h) h (by omega); omega
      · have := gsL_len n w (h - w) (by omega); omega
    · simp
theorem gsL_fuel : ∀ n m w h, w + h ≤ n → w + h ≤ m → gsL n w h = gsL m w h
  | 0, m, w, h, hn, hm => by
    have : w = 0 := by omega
    have : h = 0 := by omega
    subst_vars
    rw [gsL_zero, gsL_zero]
  | n + 1, 0, w, h, hn, hm => by
    have : w = 0 := by omega
    have : h = 0 := by omega
    subst_vars
    rw [gsL_zero, gsL_zero]
  | n + 1, m + 1, w, h, hn, hm => by
    rw [gsL, gsL]
    split
    · rename_i c
      rw [gsL_fuel n m (w - h) h (by omega) (by omega), gsL_fuel n m w (h - w) (by omega) (by omega)]
    · rfl
theorem sgs_l1 : ∀ n (a b : Nat) (acc : List Int), 2 * a + 2 * b + (if a < b then 1 else 0) ≤ n → a + b ≤ 4000 → 0 < b → acc.length + (a + b) ≤ 100000 → Ev (fun k => spec_GreedySquares.l1 k acc (a : Int) (b : Int)) (acc ++ gsL (a + b) a b)
  | 0, a, b, acc, h, _, hb, _ => by omega
  | n + 1, a, b, acc, h, h4, hb, hl => by
    refine Ev.step (fun k => by rw [spec_GreedySquares.l1]) ?_
    by_cases c : b ≤ a
    · refine evT (by omega) (evT (by omega) ?_)
      rw [show wrap64 ((a : Int) - (b : Int)) = ((a - b : Nat) : Int) by rw [w64 (by omega) (by omega)]; omega]
      have ih := sgs_l1 n (a - b) b (acc ++ [(b : Int)]) (by split <;> omega) (by omega) hb (by simp; omega)
      have e : gsL (a + b) a b = (b : Int) :: gsL (a - b + b) (a - b) b := by
        obtain ⟨m, hm⟩ : ∃ m, a + b = m + 1 := ⟨a + b - 1, by omega⟩
        rw [hm, gsL, if_pos ⟨by omega, hb⟩, if_pos c, Nat.min_eq_right c, gsL_fuel m (a - b + b) (a - b) b (by omega) (Nat.le_refl _)]
      rw [e]
      simpa using ih
    · refine evF (by omega) ?_
      refine Ev.step (fun k => by rw [spec_GreedySquares.l0]) ?_
      by_cases c2 : 0 < a
      · refine evT (by omega) ?_
        have ih := sgs_l1 n b a acc (by rw [if_neg (by omega)]; rw [if_pos (by omega)] at h; omega) (by omega) c2 (by omega)
        rw [gsL_sym, Nat.add_comm]
        exact ih
      · have : a = 0 := by omega
        subst this
        refine evF (by omega) ?_
        rw [gsL_sym, gsL_zero, List.append_nil]
        exact evSome _
theorem igs_l0 : ∀ n (w h : Nat) (acc : List Int), w + h ≤ n → n ≤ 4000 → acc.length + (w + h) ≤ 100000 → Ev (fun k => impl_GreedySquares.l0 k (w : Int) (h : Int) acc) (acc ++ gsL n w h)
  | 0, w, h, acc, hn, _, _ => by
    refine Ev.step (fun k => by rw [impl_GreedySquares.l0]) ?_
    refine evF (by omega) ?_
    refine Ev.step (fun k => by rw [impl_GreedySquares.j2]) ?_
    rw [gsL, List.append_nil]
    exact evF (by decide) (evSome _)
  | n + 1, w, h, acc, hn, h4, hl => by
    refine Ev.step (fun k => by rw [impl_GreedySquares.l0]) ?_
    rw [gsL]
    by_cases c : 0 < w
    · refine evT (by omega) ?_
      refine Ev.step (fun k => by rw [impl_GreedySquares.j2]) ?_
      by_cases c2 : 0 < h
      · refine evT (decide_eq_true (by omega)) (evT (by omega) (evB rfl ?_))
        rw [if_pos ⟨c, c2⟩, show mn (w : Int) (h : Int) = ((min w h : Nat) : Int) by unfold mn; split <;> omega]
        by_cases c3 : h ≤ w
        · refine evT (by omega) ?_
          rw [if_pos c3, show wrap64 ((w : Int) - ((min w h : Nat) : Int)) = ((w - h : Nat) : Int) by rw [w64 (by omega) (by omega)]; omega]
          have ih := igs_l0 n (w - h) h (acc ++ [((min w h : Nat) : Int)]) (by omega) (by omega) (by simp; omega)
          simpa using ih
        · refine evF (by omega) ?_
          rw [if_neg c3, show wrap64 ((h : Int) - ((min w h : Nat) : Int)) = ((h - w : Nat) : Int) by rw [w64 (by omega) (by omega)]; omega]
          have ih := igs_l0 n w (h - w) (acc ++ [((min w h : Nat) : Int)]) (by omega) (by omega) (by simp; omega)
          simpa using ih
      · rw [if_neg (fun hh => c2 hh.2), List.append_nil]
        exact evF (by rw [decide_eq_false (by omega)]; decide) (evSome _)
    · refine evF (by omega) ?_
      refine Ev.step (fun k => by rw [impl_GreedySquares.j2]) ?_
      rw [if_neg (fun hh => c hh.1), List.append_nil]
      exact evF (by decide) (evSome _)
theorem sgs_ev (w h : Nat) (hw : 1 ≤ w ∧ w ≤ 1000) (hh : 1 ≤ h ∧ h ≤ 1000) : Ev (fun k => spec_GreedySquares.f k (w : Int) (h : Int)) (gsL (w + h) w h) := by
  unfold spec_GreedySquares.f
  refine evB (l01In_t (by omega) (by omega)) (evT rfl (evB (l01In_t (by omega) (by omega)) ?_))
  refine Ev.step (fun k => by rw [spec_GreedySquares.j0]) ?_
  refine evF (by decide) ?_
  rw [show mx (w : Int) (h : Int) = ((max w h : Nat) : Int) by unfold mx; split <;> omega, show mn (w : Int) (h : Int) = ((min w h : Nat) : Int) by unfold mn; split <;> omega]
  refine Ev.step (fun k => by rw [spec_GreedySquares.l0]) ?_
  refine evT (by omega) ?_
  have e := sgs_l1 _ (max w h) (min w h) [] (Nat.le_refl _) (by omega) (by omega) (by simp; omega)
  have e2 : gsL (max w h + min w h) (max w h) (min w h) = gsL (w + h) w h := by
    by_cases c : h ≤ w
    · rw [Nat.max_eq_left c, Nat.min_eq_right c]
    · rw [Nat.max_eq_right (by omega), Nat.min_eq_left (by omega), gsL_sym, Nat.add_comm]
  rw [List.nil_append, e2] at e
  exact e
theorem igs_ev (w h : Nat) (hw : 1 ≤ w ∧ w ≤ 1000) (hh : 1 ≤ h ∧ h ≤ 1000) : Ev (fun k => impl_GreedySquares.f k (w : Int) (h : Int)) (gsL (w + h) w h) := by
  unfold impl_GreedySquares.f
  refine evB (within_t (by omega) (by omega)) (evT rfl (evB (within_t (by omega) (by omega)) ?_))
  refine Ev.step (fun k => by rw [impl_GreedySquares.j0]) ?_
  refine evF (by decide) ?_
  have e := igs_l0 (w + h) w h [] (Nat.le_refl _) (by omega) (by simp; omega)
  rwa [List.nil_append] at e
/-! sqQuot -/
theorem quot_same (t : List Int) : ∀ i, spec_QuotientsOf.go t i = impl_QuotientsOf.go t i
  | 0 => rfl
  | i + 1 => by rw [spec_QuotientsOf.go, impl_QuotientsOf.go, quot_same t i]
theorem quot_I (t : List Int) : ∀ i, ∀ x ∈ impl_QuotientsOf.go t i, I64' x
  | 0, x, hx => by simp [impl_QuotientsOf.go] at hx
  | i + 1, x, hx => by
    rw [impl_QuotientsOf.go] at hx
    split at hx
    · rcases List.mem_or_eq_of_mem_set hx with h | h
      · exact quot_I t i x h
      · rw [h]; exact w_I _
    · rw [List.mem_append, List.mem_singleton] at hx
      rcases hx with h | h
      · exact quot_I t i x h
      · rw [h]; unfold I64'; omega
theorem quot_ev (a0 a1 : Int) : ∃ q, Ev (fun k => spec_QuotientsOf.f k a0 a1) q ∧ Ev (fun k => impl_QuotientsOf.f k a0 a1) q ∧ (∀ x ∈ q, I64' x) ∧ q.length ≤ 3000 := by
  by_cases c : (1 ≤ a0 ∧ a0 ≤ 1000) ∧ 1 ≤ a1 ∧ a1 ≤ 1000
  · obtain ⟨w, rfl⟩ : ∃ n : Nat, a0 = (n : Int) := ⟨a0.toNat, by omega⟩
    obtain ⟨h, rfl⟩ : ∃ n : Nat, a1 = (n : Int) := ⟨a1.toNat, by omega⟩
    have hl := gsL_len (w + h) w h (Nat.le_refl _)
    have hp : 0 < (gsL (w + h) w h).length := by
      obtain ⟨m, hm⟩ : ∃ m, w + h = m + 1 := ⟨w + h - 1, by omega⟩
      rw [hm, gsL, if_pos ⟨by omega, by omega⟩]
      simp
    refine ⟨impl_QuotientsOf.go (gsL (w + h) w h) (gsL (w + h) w h).length, ?_, ?_, quot_I _ _, ?_⟩
    · unfold spec_QuotientsOf.f
      refine Ev.bind (sgs_ev w h (by omega) (by omega)) (evT (by omega) ?_)
      rw [quot_same]
      exact evSome _
    · unfold impl_QuotientsOf.f
      refine evT ⟨by unfold impl_QuotientsOf.ok; simp; omega, by unfold impl_QuotientsOf.ok; simp; omega⟩ ?_
      exact Ev.bind (igs_ev w h (by omega) (by omega)) (evT ⟨hp, by omega⟩ (evSome _))
    · have := (impl_QuotientsOf.go_len (gsL (w + h) w h) (gsL (w + h) w h).length).1
      omega
  · refine ⟨[], ?_, ?_, fun x hx => by simp at hx, by simp⟩
    · unfold spec_QuotientsOf.f
      have e : Ev (fun k => spec_GreedySquares.f k a0 a1) [] := by
        unfold spec_GreedySquares.f
        refine evB (l01In_eq _ _ _) ?_
        by_cases c0 : 1 ≤ a0 ∧ a0 ≤ 1000
        · refine evT (decide_eq_true c0) (evB (l01In_f (fun h => c ⟨c0, h⟩)) ?_)
          refine Ev.step (fun k => by rw [spec_GreedySquares.j0]) ?_
          exact evT rfl (evSome _)
        · refine evF (by rw [decide_eq_false c0]; decide) ?_
          refine Ev.step (fun k => by rw [spec_GreedySquares.j0]) ?_
          exact evT rfl (evSome _)
      exact Ev.bind e (evT (by simp) (evSome _))
    · unfold impl_QuotientsOf.f impl_QuotientsOf.ok
      exact evF (fun h => c ⟨by simpa using h.1, by simpa using h.2⟩) (evSome _)
/-! sqLine -/
theorem numsB_size (l : List Int) (h : ∀ x ∈ l, I64' x) : (numsB l).size ≤ 10000000 := by
  unfold numsB
  split
  · show 0 ≤ _; omega
  · rename_i hl
    unfold dashB
    split
    · show 1 ≤ _; omega
    · have := joinB_size (l.map itob) ⟨#[44]⟩ (words_small l h) (by show 1 ≤ _; omega)
      rw [List.length_map] at this
      omega
theorem sqApp (a b : ByteArray) : (a ++ b).size = a.size + b.size := ByteArray.size_append
theorem sqItob (n : Int) (h : I64' n) : (itob n).size ≤ 20 := by unfold itob; rw [ba_size]; exact itoa_len n h
def sqS1 : ByteArray := ⟨#[103, 114, 101, 101, 100, 121, 32]⟩
def sqS2 : ByteArray := ⟨#[32, 102, 101, 119, 101, 115, 116, 32]⟩
theorem sq_line (a0 a1 : Int) : ∃ r, Ev (fun k => spec_SquareLine.f k a0 a1) r ∧ Ev (fun k => impl_SquareLine.f k a0 a1) r := by
  obtain ⟨q, q1, q2, qI, ql⟩ := quot_ev a0 a1
  obtain ⟨r, r1, r2, rI⟩ := fewest_ev a0 a1
  have h1 := spec_nums_ev q qI (by omega)
  have h2 := impl_nums_ev q qI (by omega)
  have hs := numsB_size q qI
  have hr := sqItob r rI
  have z1 : (⟨#[103, 114, 101, 101, 100, 121, 32]⟩ : ByteArray).size = 7 := rfl
  have z2 : (⟨#[32, 102, 101, 119, 101, 115, 116, 32]⟩ : ByteArray).size = 8 := rfl
  by_cases c : q.length = 0
  · refine ⟨⟨#[110, 111, 110, 101]⟩, ?_, ?_⟩
    · unfold spec_SquareLine.f
      exact Ev.bind q1 (evT (by omega) (evSome _))
    · unfold impl_SquareLine.f
      exact Ev.bind q2 (evT (by omega) (evSome _))
  · by_cases c2 : r < 0
    · refine ⟨sqS1 ++ numsB q, ?_, ?_⟩
      · unfold spec_SquareLine.f
        exact Ev.bind q1 (evF (by omega) (Ev.bind h1 (evT (by omega) (Ev.bind r1 (evT c2 (evSome _))))))
      · unfold impl_SquareLine.f
        exact Ev.bind q2 (evF (by omega) (Ev.bind h2 (evT (by omega) (evB r2 (evF (by omega) (evSome _))))))
    · refine ⟨sqS1 ++ numsB q ++ sqS2 ++ itob r, ?_, ?_⟩
      · unfold spec_SquareLine.f
        refine Ev.bind q1 (evF (by omega) (Ev.bind h1 (evT (by omega) (Ev.bind r1 (evF c2 (evT ?_ (Ev.bind (spec_fmt_ev r rI) (evT ?_ (evSome _)))))))))
        · rw [sqApp, z1]; omega
        · rw [sqApp, sqApp, z1, z2]; omega
      · unfold impl_SquareLine.f
        rw [show sqS1 ++ numsB q ++ sqS2 ++ itob r = (sqS1 ++ numsB q) ++ (sqS2 ++ itob r) from ByteArray.append_assoc]
        refine Ev.bind q2 (evF (by omega) (Ev.bind h2 (evT (by omega) (evB r2 (evT (by omega) (evB (impl_fmt r rI) (evT (by omega) (evT ?_ (evSome _)))))))))
        rw [sqApp, sqApp, z1, z2]; omega

theorem FnExactSquareLine : ∀ (a0 : Int) (a1 : Int), Opens.I64 a0 → Opens.I64 a1 → ∃ k, laws_FnExactSquareLine.f k a0 a1 = some true := by
  intro a0 a1 g0 g1
  refine Ev.rounds (g := fun k => laws_FnExactSquareLine.f k a0 a1) ?_
  unfold laws_FnExactSquareLine.f
  obtain ⟨r, h1, h2⟩ := sq_line a0 a1
  exact Ev.bind h1 (Ev.bind h2 (evT rfl (evSome _)))

end Go.Proofs.YtndlmckfacegeaaDoor.Pure
