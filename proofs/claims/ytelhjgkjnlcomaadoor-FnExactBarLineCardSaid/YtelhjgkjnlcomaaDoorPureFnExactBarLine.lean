/- FnExactBarLine: for every bar and list of ints, BarLine of the program and of the reference answer alike and leave the argument as it is. No condition. -/
import Derived.Test.YtelhjgkjnlcomaaDoorQFnExactBarLinex6
import Derived.Test.YtelhjgkjnlcomaaDoorOpens
namespace Go.Proofs.YtelhjgkjnlcomaaDoor.Pure
open Go.RowKit Go.Proofs.YtelhjgkjnlcomaaDoor Go.Proofs.YtelhjgkjnlcomaaDoor.QFnExactBarLine Go.Proofs.YtelhjgkjnlcomaaDoorW.PrintWords Go.Proofs.YtelhjgkjnlcomaaDoorW.PrintLast
set_option linter.unusedVariables false
set_option linter.unusedSimpArgs false

/-! base -/
theorem w64 {x : Int} (h0 : -9223372036854775808 ≤ x) (h1 : x ≤ 9223372036854775807) : wrap64 x = x := by unfold wrap64; omega
theorem w64n (n : Nat) (h : n ≤ 9223372036854775807) : wrap64 (n : Int) = n := w64 (by omega) (by omega)
theorem w64s (n : Nat) (h : n < 9223372036854775807) : wrap64 ((n : Int) + 1) = ((n + 1 : Nat) : Int) := by rw [w64 (by omega) (by omega)]; omega
theorem evSome {α : Type} (r : α) : Ev (fun _ : Nat => some r) r := ⟨0, fun _ _ => rfl⟩
theorem evOf {α : Type} {f : Option α} {r : α} (h : f = some r) : Ev (fun _ : Nat => f) r := ⟨0, fun _ _ => h⟩
theorem evUniq {α : Type} {g : Nat → Option α} {r q : α} (h : Ev g r) (k : Ev g q) : r = q := by
  obtain ⟨a, ha⟩ := h
  obtain ⟨b, hb⟩ := k
  have h1 := ha (a + b) (by omega)
  rw [hb (a + b) (by omega)] at h1
  exact (Option.some.inj h1).symm
theorem evIf {α : Type} {c : Prop} [Decidable c] {f g : Nat → Option α} {r : α} (hp : c → Ev f r) (hn : ¬ c → Ev g r) : Ev (fun k => if c then f k else g k) r := by
  by_cases h : c
  · simp only [if_pos h]; exact hp h
  · simp only [if_neg h]; exact hn h
theorem evT {α : Type} {c : Prop} [Decidable c] {f g : Nat → Option α} {r : α} (h : c) (hp : Ev f r) : Ev (fun k => if c then f k else g k) r := by
  simp only [if_pos h]; exact hp
theorem evF {α : Type} {c : Prop} [Decidable c] {f g : Nat → Option α} {r : α} (h : ¬ c) (hp : Ev g r) : Ev (fun k => if c then f k else g k) r := by
  simp only [if_neg h]; exact hp
theorem evB {α β : Type} {f : Option α} {g : Nat → α → Option β} {a : α} {r : β} (h : f = some a) (k : Ev (fun n => g n a) r) : Ev (fun n => f.bind (g n)) r := by
  subst h
  exact k
theorem getD_eq {α : Type} (l : List α) (i : Nat) (z : α) (h : i < l.length) : l.getD i z = l[i] := by
  rw [List.getD_eq_getElem?_getD, List.getElem?_eq_getElem h]; rfl
theorem take_succ' {α : Type} (l : List α) (i : Nat) (h : i < l.length) : l.take (i + 1) = l.take i ++ [l[i]] := by
  rw [List.take_succ_eq_append_getElem h]
theorem set_fill {α : Type} (l : List α) (z x : α) (i d : Nat) (hi : l.length = i) : (l ++ List.replicate (d + 1) z).set i x = l ++ [x] ++ List.replicate d z := by
  subst hi
  rw [List.set_append_right _ _ (Nat.le_refl _), Nat.sub_self, List.replicate_succ, List.set_cons_zero, List.append_assoc]
  rfl
theorem drop_cons {α : Type} (l : List α) (i : Nat) (h : i < l.length) : l.drop i = l[i] :: l.drop (i + 1) := List.drop_eq_getElem_cons h
/-! laws_toIntS -/
theorem toIntS_l0 (l : List Int) (hl : l.length ≤ 9223372036854775806) : ∀ d i : Nat, i + d = l.length → Ev (fun k => laws_toIntS.l0 k l (l.take i ++ List.replicate d 0) (i : Int)) l := by
  intro d
  induction d with
  | zero =>
    intro i hi
    refine Ev.step (fun k => by rw [laws_toIntS.l0]) ?_
    refine evF (by omega) ?_
    have : l.take i ++ List.replicate 0 0 = l := by rw [List.take_of_length_le (by omega)]; simp
    rw [this]
    exact evSome _
  | succ d ih =>
    intro i hi
    refine Ev.step (fun k => by rw [laws_toIntS.l0]) ?_
    refine evT (by omega) (evT (by omega) (evT (by simp; omega) ?_))
    rw [w64s i (by omega), show ((i : Int)).toNat = i from by omega, set_fill _ _ _ _ _ (by rw [List.length_take]; omega)]
    have h2 : rd l (i : Int) = l[i] := by unfold rd; rw [show ((i : Int)).toNat = i from by omega]; exact getD_eq _ _ _ (by omega)
    rw [h2, ← take_succ' l i (by omega)]
    exact ih (i + 1) (by omega)
theorem toIntS_ev (l : List Int) (hl : l.length ≤ 1048576) : Ev (fun k => laws_toIntS.f k l) l := by
  unfold laws_toIntS.f
  refine evT (by omega) (evT (by omega) ?_)
  have h := toIntS_l0 l (by omega) l.length 0 (by omega)
  simpa using h
/-! laws_eqIntS -/
theorem eqIntS_l0 (l : List Int) (hl : l.length ≤ 9223372036854775806) : ∀ d i : Nat, i + d = l.length → Ev (fun k => laws_eqIntS.l0 k l l (i : Int)) true := by
  intro d
  induction d with
  | zero =>
    intro i hi
    refine Ev.step (fun k => by rw [laws_eqIntS.l0]) ?_
    exact evF (by omega) (evSome _)
  | succ d ih =>
    intro i hi
    refine Ev.step (fun k => by rw [laws_eqIntS.l0]) ?_
    refine evT (by omega) (evT (by omega) (evT (by omega) (evT rfl ?_)))
    rw [w64s i (by omega)]
    exact ih (i + 1) (by omega)
theorem eqIntS_ev (l : List Int) (hl : l.length ≤ 1048576) : Ev (fun k => laws_eqIntS.f k l l) true := by
  unfold laws_eqIntS.f
  exact evT rfl (by simpa using eqIntS_l0 l (by omega) l.length 0 (by omega))
/-! l01In -/
theorem l01In_t {a lo hi : Int} (h0 : lo ≤ a) (h1 : a ≤ hi) : spec_l01In.f a lo hi = some true := by unfold spec_l01In.f; rw [if_pos h0]; simp [h1]
theorem l01In_f {a lo hi : Int} (h : ¬ (lo ≤ a ∧ a ≤ hi)) : spec_l01In.f a lo hi = some false := by
  unfold spec_l01In.f
  by_cases h0 : lo ≤ a
  · rw [if_pos h0]; simp; omega
  · rw [if_neg h0]
theorem l01In_eq (a lo hi : Int) : spec_l01In.f a lo hi = some (decide (lo ≤ a ∧ a ≤ hi)) := by
  by_cases h : lo ≤ a ∧ a ≤ hi
  · rw [l01In_t h.1 h.2]; simp [h]
  · rw [l01In_f h]; simp; omega
/-! within -/
theorem within_t {a lo hi : Int} (h0 : lo ≤ a) (h1 : a ≤ hi) : impl_within.f a lo hi = some true := by unfold impl_within.f; rw [if_pos h0]; simp [h1]
theorem within_f {a lo hi : Int} (h : ¬ (lo ≤ a ∧ a ≤ hi)) : impl_within.f a lo hi = some false := by
  unfold impl_within.f
  by_cases h0 : lo ≤ a
  · rw [if_pos h0]; simp; omega
  · rw [if_neg h0]
theorem within_eq (a lo hi : Int) : impl_within.f a lo hi = some (decide (lo ≤ a ∧ a ≤ hi)) := by
  by_cases h : lo ≤ a ∧ a ≤ hi
  · rw [within_t h.1 h.2]; simp [h]
  · rw [within_f h]; simp; omega
/-! fmtBase -/
def I64' (x : Int) : Prop := -9223372036854775808 ≤ x ∧ x ≤ 9223372036854775807
def itob (n : Int) : ByteArray := ⟨(Lib.itoa n).toArray⟩
theorem ba_ext {a b : ByteArray} (h : a.data.toList = b.data.toList) : a = b := by
  obtain ⟨⟨a⟩⟩ := a
  obtain ⟨⟨b⟩⟩ := b
  exact congrArg (fun l => (⟨⟨l⟩⟩ : ByteArray)) h
theorem ba_size (l : List UInt8) : (⟨l.toArray⟩ : ByteArray).size = l.length := by show l.toArray.size = _; exact List.size_toArray
theorem ba_size' (b : ByteArray) : b.size = b.data.toList.length := by rw [Array.length_toList]; rfl
theorem ba_app (a b : List UInt8) : (⟨a.toArray⟩ : ByteArray) ++ (⟨b.toArray⟩ : ByteArray) = ⟨(a ++ b).toArray⟩ := by
  apply ba_ext
  rw [ByteArray.data_append, Array.toList_append]
theorem ba_app_l (a b : ByteArray) : (a ++ b).data.toList = a.data.toList ++ b.data.toList := by rw [ByteArray.data_append, Array.toList_append]
theorem itob_data (n : Int) : (itob n).data.toList = Lib.itoa n := rfl
theorem one_num (d : Nat) (h : d < 10) : strOfNums [((48 + d : Nat) : Int)] = ⟨([UInt8.ofNat (48 + d)] : List UInt8).toArray⟩ := by
  apply ba_ext
  rw [strOfNums_data, List.map_cons, List.map_nil, Int.toNat_natCast]
theorem dec_len : ∀ (k u : Nat), 1 ≤ k → u < 10 ^ k → (Lib.decDigits u).length ≤ k
  | 0, u, h, _ => by omega
  | k + 1, u, _, h => by
    rw [Lib.decDigits]
    split
    · simp
    · rename_i h9
      rw [List.length_append, List.length_singleton]
      have hk : 1 ≤ k := by
        cases k with
        | zero => simp at h; omega
        | succ k => omega
      have := dec_len k (u / 10) hk (by rw [Nat.pow_succ] at h; omega)
      omega
theorem itoa_len (n : Int) (h : I64' n) : (Lib.itoa n).length ≤ 20 := by
  unfold I64' at h
  unfold Lib.itoa
  split
  · have := dec_len 19 n.natAbs (by decide) (by omega)
    rw [List.length_cons]; omega
  · have := dec_len 19 n.toNat (by decide) (by omega)
    omega
/-! fmtInt -/
theorem one_ch (u : Nat) (h9 : u < 10) : (wrap64 (48 + (u : Int))) % 256 = ((48 + u : Nat) : Int) := by rw [w64 (by omega) (by omega)]; omega
theorem fmt_l0 : ∀ (m : Nat) (u : Nat) (acc : List UInt8), u < 10 ^ (m + 1) → acc.length + m ≤ 1000 → u < 9223372036854775808 → Ev (fun k => spec_FormatInt.l0 k (u : Int) ⟨acc.toArray⟩) ⟨(Lib.decDigits u ++ acc).toArray⟩ := by
  intro m
  induction m with
  | zero =>
    intro u acc hu h2 h1
    have h9 : u < 10 := by simpa using hu
    refine Ev.step (fun k => by rw [spec_FormatInt.l0]) ?_
    refine evF (by omega) ?_
    rw [one_ch u h9]
    refine evB rfl ?_
    rw [one_num u h9]
    refine evT (by rw [ba_size, ba_size]; simp; omega) ?_
    rw [ba_app, Lib.decDigits, dif_pos h9]
    exact evSome _
  | succ m ih =>
    intro u acc hu h2 h1
    refine Ev.step (fun k => by rw [spec_FormatInt.l0]) ?_
    by_cases h9 : u < 10
    · refine evF (by omega) ?_
      rw [one_ch u h9]
      refine evB rfl ?_
      rw [one_num u h9]
      refine evT (by rw [ba_size, ba_size]; simp; omega) ?_
      rw [ba_app, Lib.decDigits, dif_pos h9]
      exact evSome _
    · refine evT (by omega) ?_
      have e0 : Int.tmod (u : Int) 10 = ((u % 10 : Nat) : Int) := by rw [Int.tmod_eq_emod_of_nonneg (by omega)]; omega
      have e1 : Int.tdiv (u : Int) 10 = ((u / 10 : Nat) : Int) := by rw [Int.tdiv_eq_ediv_of_nonneg (by omega)]; omega
      rw [e0, e1, one_ch _ (by omega), w64 (x := ((u / 10 : Nat) : Int)) (by omega) (by omega)]
      refine evB rfl ?_
      rw [one_num (u % 10) (by omega)]
      refine evT (by rw [ba_size, ba_size]; simp; omega) ?_
      rw [ba_app]
      have := ih (u / 10) ([UInt8.ofNat (48 + u % 10)] ++ acc) (by rw [Nat.pow_succ] at hu; omega) (by simp; omega) (by omega)
      rw [Lib.decDigits, dif_neg h9, List.append_assoc]
      exact this
theorem fmt_neg : ∀ (m : Nat) (u : Nat), 1 ≤ u → u < 10 ^ (m + 1) → u ≤ 9223372036854775808 → m ≤ 30 → Ev (fun k => spec_FormatInt.f k (-(u : Int))) ⟨(45 :: Lib.decDigits u).toArray⟩ := by
  intro m
  induction m with
  | zero =>
    intro u h0 hu h1 hm
    have h9 : u < 10 := by simpa using hu
    refine Ev.step (fun k => by rw [spec_FormatInt.f]) ?_
    refine evT (by omega) ?_
    have e1 : Int.tdiv (-(u : Int)) 10 = 0 := by rw [Int.neg_tdiv, Int.tdiv_eq_ediv_of_nonneg (by omega)]; omega
    rw [e1]
    refine evT (w64 (by omega) (by omega)) ?_
    have e : (48 - (-(u : Int))) = 48 + (u : Int) := by omega
    rw [e, one_ch u h9]
    refine evB rfl ?_
    rw [one_num u h9]
    refine evT (by rw [ba_size]; simp) ?_
    rw [Lib.decDigits, dif_pos h9]
    exact evSome _
  | succ m ih =>
    intro u h0 hu h1 hm
    refine Ev.step (fun k => by rw [spec_FormatInt.f]) ?_
    refine evT (by omega) ?_
    have e1 : Int.tdiv (-(u : Int)) 10 = -((u / 10 : Nat) : Int) := by rw [Int.neg_tdiv, Int.tdiv_eq_ediv_of_nonneg (by omega)]; omega
    have e0 : Int.tmod (-(u : Int)) 10 = -((u % 10 : Nat) : Int) := by rw [Int.neg_tmod, Int.tmod_eq_emod_of_nonneg (by omega)]; omega
    rw [e1, e0, w64 (x := -((u / 10 : Nat) : Int)) (by omega) (by omega)]
    by_cases h9 : u < 10
    · refine evT (by omega) ?_
      have e : (48 - (-(u : Int))) = 48 + (u : Int) := by omega
      rw [e, one_ch u h9]
      refine evB rfl ?_
      rw [one_num u h9]
      refine evT (by rw [ba_size]; simp) ?_
      rw [Lib.decDigits, dif_pos h9]
      exact evSome _
    · refine evF (by omega) ?_
      refine Ev.bind (ih (u / 10) (by omega) (by rw [Nat.pow_succ] at hu; omega) (by omega) (by omega)) ?_
      have e : (48 - (-((u % 10 : Nat) : Int))) = 48 + ((u % 10 : Nat) : Int) := by omega
      rw [e, one_ch _ (by omega)]
      refine evB rfl ?_
      rw [one_num (u % 10) (by omega)]
      have hl := dec_len (m + 1) (u / 10) (by omega) (by rw [Nat.pow_succ] at hu; omega)
      refine evT (by rw [ba_size, ba_size]; simp; omega) ?_
      rw [ba_app]
      have e3 : Lib.decDigits u = Lib.decDigits (u / 10) ++ [UInt8.ofNat (48 + u % 10)] := by rw [Lib.decDigits, dif_neg h9]
      rw [e3, ← List.cons_append]
      exact evSome _
theorem spec_fmt_ev (n : Int) (h : I64' n) : Ev (fun k => spec_FormatInt.f k n) (itob n) := by
  unfold I64' at h
  unfold itob Lib.itoa
  by_cases h0 : n < 0
  · rw [if_pos h0]
    have := fmt_neg 18 n.natAbs (by omega) (by omega) (by omega) (by omega)
    rwa [show -((n.natAbs : Nat) : Int) = n by omega] at this
  · rw [if_neg h0]
    refine Ev.step (fun k => by rw [spec_FormatInt.f]) ?_
    refine evF h0 ?_
    have := fmt_l0 18 n.toNat [] (by omega) (by simp) (by omega)
    rwa [show ((n.toNat : Nat) : Int) = n by omega, List.append_nil] at this
/-! fmtImpl -/
theorem impl_fmt (n : Int) (h : I64' n) : impl_FormatInt.f n = some (itob n) := by
  unfold impl_FormatInt.f
  exact if_pos h
/-! joinBase -/
theorem join_len (xs : List (List UInt8)) (sep : List UInt8) (h : ∀ x ∈ xs, x.length ≤ 100000) (hs : sep.length ≤ 100000) : (Lib.join xs sep).length ≤ 200000 * xs.length := by
  cases xs with
  | nil => simp [Lib.join]
  | cons x r =>
    rw [Lib.join_cons, List.length_append, Lib.joinTail_length, List.length_cons]
    have h1 : Lib.lens r ≤ 100000 * r.length := by
      have hr : ∀ y ∈ r, y.length ≤ 100000 := fun y hy => h y (List.mem_cons_of_mem _ hy)
      clear h
      induction r with
      | nil => simp [Lib.lens]
      | cons y r ih =>
        have := ih (fun z hz => hr z (List.mem_cons_of_mem _ hz))
        have h2 := hr y List.mem_cons_self
        unfold Lib.lens at this ⊢
        simp only [List.map_cons, List.sum_cons, List.length_cons]
        omega
    have h2 := h x List.mem_cons_self
    have h3 : sep.length * r.length ≤ 100000 * r.length := Nat.mul_le_mul_right _ hs
    omega
theorem join_snoc (xs : List (List UInt8)) (sep y : List UInt8) (h : xs ≠ []) : Lib.join (xs ++ [y]) sep = Lib.join xs sep ++ sep ++ y := by
  cases xs with
  | nil => exact absurd rfl h
  | cons x r =>
    rw [List.cons_append, Lib.join_cons, Lib.join_cons]
    simp [Lib.joinTail]
/-! joinSpec -/
def joinB (l : List ByteArray) (sep : ByteArray) : ByteArray := ⟨(Lib.join (l.map (·.data.toList)) sep.data.toList).toArray⟩
theorem joinB_one (x sep : ByteArray) : joinB [x] sep = x := by
  apply ba_ext
  simp [joinB, Lib.join_one]
theorem joinB_snoc (l : List ByteArray) (sep x : ByteArray) (h : l ≠ []) : joinB (l ++ [x]) sep = joinB l sep ++ sep ++ x := by
  apply ba_ext
  unfold joinB
  rw [List.map_append, List.map_cons, List.map_nil, join_snoc _ _ _ (by simpa using h)]
  simp
theorem joinB_size (l : List ByteArray) (sep : ByteArray) (h : ∀ x ∈ l, x.size ≤ 100000) (hs : sep.size ≤ 100000) : (joinB l sep).size ≤ 200000 * l.length := by
  unfold joinB
  rw [ba_size]
  have := join_len (l.map (·.data.toList)) sep.data.toList (by
    intro x hx
    obtain ⟨y, hy, rfl⟩ := List.mem_map.1 hx
    have := h y hy
    rwa [ba_size'] at this) (by rwa [ba_size'] at hs)
  simpa using this
theorem join_l0 (l : List ByteArray) (sep : ByteArray) (h : ∀ x ∈ l, x.size ≤ 100000) (hs : sep.size ≤ 100000) (hl : l.length ≤ 1000000) : ∀ d i : Nat, i + d = l.length → Ev (fun k => spec_Join.l0 k sep (joinB (l.take i) sep) l (l.length : Int) (i : Int)) (joinB l sep) := by
  intro d
  induction d with
  | zero =>
    intro i hi
    refine Ev.step (fun k => by rw [spec_Join.l0]) ?_
    refine evF (by omega) ?_
    rw [List.take_of_length_le (by omega)]
    exact evSome _
  | succ d ih =>
    intro i hi
    have hr : rdOf ByteArray.empty l (i : Int) = l[i] := by unfold rdOf; rw [show ((i : Int)).toNat = i from by omega]; exact getD_eq _ _ _ (by omega)
    have hz := joinB_size (l.take i) sep (fun x hx => h x (List.mem_of_mem_take hx)) hs
    rw [List.length_take] at hz
    have hx := h l[i] (List.getElem_mem _)
    have hs1 : (joinB (l.take i) sep ++ sep).size = (joinB (l.take i) sep).size + sep.size := ByteArray.size_append
    have ih' := ih (i + 1) (by omega)
    refine Ev.step (fun k => by rw [spec_Join.l0]) ?_
    refine evT (by omega) (evT (by omega) (evT (by omega) ?_))
    rw [hr, w64s i (by omega)]
    rw [take_succ' l i (by omega)] at ih'
    by_cases h0 : i = 0
    · subst h0
      refine evF (by omega) ?_
      have e0 : joinB (List.take 0 l) sep = ByteArray.empty := rfl
      have e1 : List.take 0 l = [] := rfl
      rw [e1, List.nil_append, joinB_one] at ih'
      rw [e0] at hz ⊢
      refine evT (by rw [ByteArray.size_empty]; omega) ?_
      rw [ByteArray.empty_append]
      exact ih'
    · have hne : l.take i ≠ [] := by
        intro e
        have := congrArg List.length e
        rw [List.length_take, List.length_nil] at this
        omega
      rw [joinB_snoc _ _ _ hne] at ih'
      exact evT (by omega) (evT (by omega) (evT (by omega) ih'))
theorem spec_join_ev (l : List ByteArray) (sep : ByteArray) (h : ∀ x ∈ l, x.size ≤ 100000) (hs : sep.size ≤ 100000) (hl : l.length ≤ 1000000) : Ev (fun k => spec_Join.f k l sep) (joinB l sep) := by
  unfold spec_Join.f
  exact join_l0 l sep h hs hl l.length 0 (by omega)
/-! joinImpl -/
theorem impl_join (l : List ByteArray) (sep : ByteArray) (h : ∀ x ∈ l, x.size ≤ 100000) (hs : sep.size ≤ 100000) (hl : l.length ≤ 1000000) : impl_Join.f l sep = some (joinB l sep) := by
  have hz := joinB_size l sep h hs
  have h1 : strings_Join.f l sep = some (joinB l sep) := by
    unfold strings_Join.f
    unfold joinB at hz
    rw [ba_size] at hz
    exact if_pos ⟨by omega, by omega⟩
  unfold impl_Join.f
  rw [h1]
  rfl
/-! orDash -/
def dashB (l : List ByteArray) (sep : ByteArray) : ByteArray := if l = [] then ⟨#[45]⟩ else joinB l sep
theorem impl_dash (l : List ByteArray) (sep : ByteArray) (h : ∀ x ∈ l, x.size ≤ 100000) (hs : sep.size ≤ 100000) (hl : l.length ≤ 1000000) : impl_orDash.f l sep = some (dashB l sep) := by
  unfold impl_orDash.f dashB
  by_cases h0 : l = []
  · rw [if_pos (by rw [h0]; rfl), if_pos h0]
  · have : ¬ (l.length : Int) = 0 := by
      have := List.length_pos_iff.2 h0
      omega
    rw [if_neg this, if_neg h0, impl_join l sep h hs hl]
    rfl
/-! fmtNumbers -/
def numsB (l : List Int) : ByteArray := if 40 < l.length then ⟨#[]⟩ else dashB (l.map itob) ⟨#[44]⟩
theorem words_small (l : List Int) (h : ∀ x ∈ l, I64' x) : ∀ x ∈ l.map itob, x.size ≤ 100000 := by
  intro x hx
  obtain ⟨y, hy, rfl⟩ := List.mem_map.1 hx
  have := itoa_len y (h y hy)
  unfold itob
  rw [ba_size]
  omega
theorem spec_nums_l0 (l : List Int) (h : ∀ x ∈ l, I64' x) (hl : l.length ≤ 40) : ∀ d i : Nat, i + d = l.length → Ev (fun k => spec_FormatNumbers.l0 k ((l.take i).map itob) l (l.length : Int) (i : Int)) (dashB (l.map itob) ⟨#[44]⟩) := by
  intro d
  induction d with
  | zero =>
    intro i hi
    refine Ev.step (fun k => by rw [spec_FormatNumbers.l0]) ?_
    refine evF (by omega) ?_
    rw [List.take_of_length_le (by omega)]
    unfold dashB
    by_cases h0 : l = []
    · subst h0
      exact evT (by simp) (by rw [if_pos (by simp)]; exact evSome _)
    · have : ¬ ((l.map itob).length : Int) = 0 := by
        have := List.length_pos_iff.2 h0
        rw [List.length_map]
        omega
      refine evF this ?_
      rw [if_neg (by simpa using h0)]
      exact Ev.bind (spec_join_ev _ _ (words_small l h) (by decide) (by rw [List.length_map]; omega)) (evSome _)
  | succ d ih =>
    intro i hi
    have hr : rd l (i : Int) = l[i] := by unfold rd; rw [show ((i : Int)).toNat = i from by omega]; exact getD_eq _ _ _ (by omega)
    have ih' := ih (i + 1) (by omega)
    rw [take_succ' l i (by omega), List.map_append, List.map_cons, List.map_nil] at ih'
    refine Ev.step (fun k => by rw [spec_FormatNumbers.l0]) ?_
    refine evT (by omega) (evT (by omega) (evT (by omega) ?_))
    rw [hr, w64s i (by omega)]
    refine Ev.bind (spec_fmt_ev _ (h _ (List.getElem_mem _))) ?_
    exact evT (by rw [List.length_map, List.length_take]; omega) ih'
theorem spec_nums_ev (l : List Int) (h : ∀ x ∈ l, I64' x) (hl : l.length ≤ 9223372036854775807) : Ev (fun k => spec_FormatNumbers.f k l) (numsB l) := by
  unfold spec_FormatNumbers.f numsB
  by_cases h40 : 40 < l.length
  · rw [if_pos h40]
    exact evT (by omega) (evSome _)
  · rw [if_neg h40]
    refine evF (by omega) ?_
    exact spec_nums_l0 l h (by omega) l.length 0 (by omega)
theorem impl_nums_l0 (l : List Int) (h : ∀ x ∈ l, I64' x) (hl : l.length ≤ 40) : ∀ d i : Nat, i + d = l.length → Ev (fun k => impl_FormatNumbers.l0 k ((l.take i).map itob) l (l.length : Int) (i : Int)) (dashB (l.map itob) ⟨#[44]⟩) := by
  intro d
  induction d with
  | zero =>
    intro i hi
    refine Ev.step (fun k => by rw [impl_FormatNumbers.l0]) ?_
    refine evF (by omega) ?_
    rw [List.take_of_length_le (by omega)]
    exact evB (impl_dash _ _ (words_small l h) (by decide) (by rw [List.length_map]; omega)) (evSome _)
  | succ d ih =>
    intro i hi
    have hr : rd l (i : Int) = l[i] := by unfold rd; rw [show ((i : Int)).toNat = i from by omega]; exact getD_eq _ _ _ (by omega)
    have ih' := ih (i + 1) (by omega)
    rw [take_succ' l i (by omega), List.map_append, List.map_cons, List.map_nil] at ih'
    refine Ev.step (fun k => by rw [impl_FormatNumbers.l0]) ?_
    refine evT (by omega) (evT (by omega) (evT (by omega) ?_))
    rw [hr, w64s i (by omega)]
    refine evB (impl_fmt _ (h _ (List.getElem_mem _))) ?_
    exact evT (by rw [List.length_map, List.length_take]; omega) ih'
theorem impl_nums_ev (l : List Int) (h : ∀ x ∈ l, I64' x) (hl : l.length ≤ 9223372036854775807) : Ev (fun k => impl_FormatNumbers.f k l) (numsB l) := by
  unfold impl_FormatNumbers.f numsB
  by_cases h40 : 40 < l.length
  · rw [if_pos h40]
    exact evT (by omega) (evSome _)
  · rw [if_neg h40]
    refine evF (by omega) ?_
    exact impl_nums_l0 l h (by omega) l.length 0 (by omega)
/-! barPut -/
theorem bar_stp_some {rec : List Int → List Int → Option (List Int)} {bar p : Int} {P S1 : List Int} {k : Nat} {nx : Option (List Int)} (h : ∃ r, nx = some r) : ∃ r, impl_bestBars.stp rec bar p P S1 k nx = some r := by
  unfold impl_bestBars.stp
  split
  · split
    · exact ⟨_, rfl⟩
    · exact h
  · exact h
theorem bar_new (S : List Int) : (S ++ [(0 : Int)]).getD S.length 0 = 0 := by
  rw [List.getD_eq_getElem?_getD, List.getElem?_append_right (Nat.le_refl _), Nat.sub_self]; rfl
theorem bar_some (bar : Int) (most : Nat) : ∀ ps P S, (∀ p ∈ ps, p ≤ bar) → S.length + ps.length ≤ most → ∃ r, impl_bestBars.put bar most ps P S = some r
  | [], P, _, _, _ => ⟨P, rfl⟩
  | p :: ps, P, S, hp, hl => by
    rw [List.length_cons] at hl
    have key : ∀ d, d ≤ S.length → ∃ r, impl_bestBars.loop (impl_bestBars.put bar most ps) bar p most P S d = some r := by
      intro d
      induction d with
      | zero =>
        intro _
        rw [impl_bestBars.loop, if_pos (by omega)]
        unfold impl_bestBars.stp
        rw [bar_new, if_pos (by have := hp p List.mem_cons_self; omega)]
        obtain ⟨r, hr⟩ := bar_some bar most ps (P ++ [(S.length : Int)]) ((S ++ [0]).set S.length (0 + p)) (fun q hq => hp q (List.mem_cons_of_mem _ hq)) (by rw [List.length_set, List.length_append, List.length_singleton]; omega)
        rw [hr]
        exact ⟨r, rfl⟩
      | succ d ih =>
        intro hd
        rw [impl_bestBars.loop, if_pos (by omega)]
        exact bar_stp_some (ih (by omega))
    exact key S.length (Nat.le_refl _)
theorem bar_stp_inv {rec : List Int → List Int → Option (List Int)} {bar p : Int} {P S1 r : List Int} {k : Nat} {nx : Option (List Int)} (h : impl_bestBars.stp rec bar p P S1 k nx = some r) : (S1.getD k 0 + p ≤ bar ∧ ∃ P', rec P' (S1.set k (S1.getD k 0 + p)) = some r) ∨ nx = some r := by
  unfold impl_bestBars.stp at h
  split at h
  · rename_i c
    split at h
    · rename_i q hq
      exact .inl ⟨c, _, hq.trans h⟩
    · exact .inr h
  · exact .inr h
theorem bar_setsum : ∀ (S : List Int) (k : Nat) (p : Int), k < S.length → (S.set k (S.getD k 0 + p)).sum = S.sum + p
  | [], _, _, h => by simp at h
  | a :: S, 0, p, _ => by simp only [List.set_cons_zero, List.getD_cons_zero, List.sum_cons]; omega
  | a :: S, k + 1, p, h => by
    have := bar_setsum S k p (by simpa using h)
    simp only [List.set_cons_succ, List.getD_cons_succ, List.sum_cons]
    omega
theorem bar_setle {S : List Int} {k : Nat} {v bar : Int} (h : ∀ x ∈ S, x ≤ bar) (hv : v ≤ bar) : ∀ x ∈ S.set k v, x ≤ bar := fun x hx => by
  rcases List.mem_or_eq_of_mem_set hx with h1 | h1
  · exact h x h1
  · omega
theorem bar_sumle (bar : Int) : ∀ S : List Int, (∀ x ∈ S, x ≤ bar) → S.sum ≤ (S.length : Int) * bar
  | [], _ => by simp
  | a :: S, h => by
    have h1 := bar_sumle bar S (fun x hx => h x (List.mem_cons_of_mem _ hx))
    have h2 := h a List.mem_cons_self
    rw [List.sum_cons, List.length_cons, Int.natCast_add, Int.add_mul]
    omega
theorem bar_sum (bar : Int) (hb : 0 ≤ bar) (most : Nat) : ∀ ps P S r, impl_bestBars.put bar most ps P S = some r → S.length ≤ most → (∀ x ∈ S, x ≤ bar) → S.sum + ps.sum ≤ (most : Int) * bar
  | [], P, S, r, _, hl, hx => by
    have h1 := bar_sumle bar S hx
    have h2 : (S.length : Int) * bar ≤ (most : Int) * bar := Int.mul_le_mul_of_nonneg_right (by omega) hb
    simp only [List.sum_nil]
    omega
  | p :: ps, P, S, r, h, hl, hx => by
    rw [impl_bestBars.put] at h
    have key : ∀ d, d ≤ S.length → impl_bestBars.loop (impl_bestBars.put bar most ps) bar p most P S d = some r → S.sum + (p :: ps).sum ≤ (most : Int) * bar := by
      intro d
      induction d with
      | zero =>
        intro _ h
        rw [impl_bestBars.loop] at h
        split at h
        · rename_i c
          rcases bar_stp_inv h with ⟨c1, P', h2⟩ | h2
          · have hS : ∀ x ∈ S ++ [(0 : Int)], x ≤ bar := fun x hx2 => by
              rcases List.mem_append.mp hx2 with h3 | h3
              · exact hx x h3
              · rw [List.mem_singleton.mp h3]; exact hb
            have h4 := bar_sum bar hb most ps P' _ r h2 (by rw [List.length_set, List.length_append, List.length_singleton]; omega) (bar_setle hS c1)
            rw [bar_setsum _ _ _ (by rw [List.length_append, List.length_singleton]; omega), List.sum_append] at h4
            simp only [List.sum_cons, List.sum_nil] at h4 ⊢
            omega
          · cases h2
        · cases h
      | succ d ih =>
        intro hd h
        rw [impl_bestBars.loop] at h
        split at h
        · rename_i c
          rcases bar_stp_inv h with ⟨c1, P', h2⟩ | h2
          · have h4 := bar_sum bar hb most ps P' _ r h2 (by rw [List.length_set]; omega) (bar_setle hx c1)
            rw [bar_setsum _ _ _ (by omega)] at h4
            simp only [List.sum_cons] at h4 ⊢
            omega
          · exact ih (by omega) h2
        · cases h
    exact key S.length (Nat.le_refl _) h
theorem bar_none {bar : Int} {xs : List Int} (hb : 0 ≤ bar) {m : Nat} (h : (m : Int) * bar < xs.sum) : impl_bestBars.put bar m xs [] [] = none := by
  cases e : impl_bestBars.put bar m xs [] [] with
  | none => rfl
  | some r =>
    have := bar_sum bar hb m xs [] [] r e (Nat.zero_le _) (fun x hx => absurd hx List.not_mem_nil)
    simp only [List.sum_nil] at this
    omega
theorem bar_skip (bar : Int) (xs : List Int) : ∀ e j d, (∀ i, j ≤ i → i < j + e → impl_bestBars.put bar i xs [] [] = none) → impl_bestBars.go bar xs j (d + e) = impl_bestBars.go bar xs (j + e) d
  | 0, _, _, _ => rfl
  | e + 1, j, d, h => by
    rw [show d + (e + 1) = (d + e) + 1 by omega, impl_bestBars.go, h j (Nat.le_refl _) (by omega)]
    show impl_bestBars.go bar xs (j + 1) (d + e) = _
    rw [bar_skip bar xs e (j + 1) d (fun i h1 h2 => h i (by omega) (by omega)), show j + 1 + e = j + (e + 1) by omega]
/-! barFind -/
def barL (bar : Int) (S : List Int) : List Int := S.map (fun x => bar - x)
def barR (o : Option (List Int)) : List Int × Bool := (o.getD [], o.isSome)
theorem barL_len (bar : Int) (S : List Int) : (barL bar S).length = S.length := List.length_map ..
theorem barL_rd (bar : Int) (S : List Int) (k : Nat) (h : k < S.length) : rd (barL bar S) (k : Int) = bar - S.getD k 0 := by
  unfold rd barL
  rw [Int.toNat_natCast, List.getD_eq_getElem?_getD, List.getElem?_map, List.getElem?_eq_getElem h, List.getD_eq_getElem?_getD, List.getElem?_eq_getElem h]
  rfl
theorem barL_set (bar : Int) (S : List Int) (k : Nat) (x : Int) : (barL bar S).set k (bar - x) = barL bar (S.set k x) := by
  unfold barL
  rw [List.map_set]
theorem bar_j2 (bar : Int) (hbar : 1 ≤ bar ∧ bar ≤ 1000) (most : Nat) (xs : List Int) (h8 : xs.length ≤ 8) (p : Int) (ps : List Int) (hps : ps.length ≤ 8) (i : Nat) (hi : i < xs.length) (hp : xs.getD i 0 = p) (hpp : 1 ≤ p ∧ p ≤ bar) (L S1 : List Int) (kk : Nat) (hk : kk < S1.length) (hS : ∀ x ∈ S1, 0 ≤ x ∧ x ≤ bar) (h9 : S1.length ≤ 9)
    (IH : ∃ o : Option (List Int), (∀ P, impl_bestBars.put bar most ps P (S1.set kk (S1.getD kk 0 + p)) = o.map (P ++ ·)) ∧ (∀ l, o = some l → l.length ≤ ps.length) ∧ (S1.getD kk 0 + p ≤ bar → Ev (fun k => spec_l18Find.f k bar xs ((i + 1 : Nat) : Int) (barL bar (S1.set kk (S1.getD kk 0 + p))) (most : Int)) (barR o)))
    (nx : List Int → Option (List Int)) (o' : Option (List Int)) (hn : ∀ P, nx P = o'.map (P ++ ·)) (hl' : ∀ l, o' = some l → l.length ≤ ps.length + 1) (hE : Ev (fun k => spec_l18Find.l0 k bar xs (i : Int) L (most : Int) ((kk + 1 : Nat) : Int)) (barR o')) :
    ∃ o : Option (List Int), (∀ P, impl_bestBars.stp (impl_bestBars.put bar most ps) bar p P S1 kk (nx P) = o.map (P ++ ·)) ∧ (∀ l, o = some l → l.length ≤ ps.length + 1) ∧ Ev (fun k => spec_l18Find.j2 k bar xs (i : Int) L (most : Int) (kk : Int) (barL bar S1)) (barR o) := by
  obtain ⟨oi, h1, h2, h3⟩ := IH
  have hx : 0 ≤ S1.getD kk 0 ∧ S1.getD kk 0 ≤ bar := by
    rw [List.getD_eq_getElem?_getD, List.getElem?_eq_getElem hk]; exact hS _ (List.getElem_mem hk)
  have hrd : rd xs (i : Int) = p := by unfold rd; rw [Int.toNat_natCast]; exact hp
  have hlen := barL_len bar S1
  by_cases c : S1.getD kk 0 + p ≤ bar
  · have ew : wrap64 (bar - S1.getD kk 0 - p) = bar - (S1.getD kk 0 + p) := by rw [w64 (by omega) (by omega)]; omega
    have base : ∀ {R : List Int × Bool}, Ev (fun k => (spec_l18Find.f k bar xs ((i + 1 : Nat) : Int) (barL bar (S1.set kk (S1.getD kk 0 + p))) (most : Int)).bind fun bt146 => (if bt146.2 = true then ((some (([(kk : Int)] : List Int) : List Int)).bind fun y150 => (if y150.length + bt146.1.length < 17592186044416 then (some ((y150 ++ bt146.1), true)) else (none))) else (spec_l18Find.l0 k bar xs (i : Int) L (most : Int) ((kk + 1 : Nat) : Int)))) R → Ev (fun k => spec_l18Find.j2 k bar xs (i : Int) L (most : Int) (kk : Int) (barL bar S1)) R := fun {R} h => by
      refine Ev.step (fun k => by rw [spec_l18Find.j2]) ?_
      rw [hrd, barL_rd bar S1 kk hk, Int.toNat_natCast, ew, barL_set, w64s i (by omega), w64s kk (by omega)]
      exact evT (by omega) (evT (by omega) (evT (by omega) (evT (by omega) (evF (by omega) h))))
    cases oi with
    | some l =>
      refine ⟨some ((kk : Int) :: l), fun P => ?_, fun l' e => ?_, ?_⟩
      · unfold impl_bestBars.stp
        rw [if_pos c, h1]
        simp
      · injection e with e; subst e; have := h2 l rfl; simp; omega
      · refine base (Ev.bind (h3 c) (evT rfl ?_))
        refine evB rfl (evT (by have := h2 l rfl; simp [barR]; omega) ?_)
        exact evSome _
    | none =>
      refine ⟨o', fun P => ?_, hl', base (Ev.bind (h3 c) (evF (by simp [barR]) hE))⟩
      unfold impl_bestBars.stp
      rw [if_pos c, h1]
      exact hn P
  · refine ⟨o', fun P => ?_, hl', ?_⟩
    · unfold impl_bestBars.stp
      rw [if_neg c]
      exact hn P
    · refine Ev.step (fun k => by rw [spec_l18Find.j2]) ?_
      rw [hrd, barL_rd bar S1 kk hk, w64s kk (by omega)]
      exact evT (by omega) (evT (by omega) (evT (by omega) (evT (by omega) (evT (by omega) hE))))
theorem bar_set01 {S : List Int} {k : Nat} {v bar : Int} (h : ∀ x ∈ S, 0 ≤ x ∧ x ≤ bar) (hv : 0 ≤ v ∧ v ≤ bar) : ∀ x ∈ S.set k v, 0 ≤ x ∧ x ≤ bar := fun x hx => by
  rcases List.mem_or_eq_of_mem_set hx with h1 | h1
  · exact h x h1
  · omega
theorem bar_j2n (bar : Int) (hbar : 1 ≤ bar ∧ bar ≤ 1000) (most : Nat) (xs : List Int) (h8 : xs.length ≤ 8) (p : Int) (i : Nat) (hi : i < xs.length) (hp : xs.getD i 0 = p) (hpp : 1 ≤ p ∧ p ≤ bar) (L S1 : List Int) (kk : Nat) (hk : kk < S1.length) (hS : ∀ x ∈ S1, 0 ≤ x ∧ x ≤ bar) (h9 : S1.length ≤ 9) (c : ¬ S1.getD kk 0 + p ≤ bar) {R : List Int × Bool} (hE : Ev (fun k => spec_l18Find.l0 k bar xs (i : Int) L (most : Int) ((kk + 1 : Nat) : Int)) R) : Ev (fun k => spec_l18Find.j2 k bar xs (i : Int) L (most : Int) (kk : Int) (barL bar S1)) R := by
  have hrd : rd xs (i : Int) = p := by unfold rd; rw [Int.toNat_natCast]; exact hp
  have hlen := barL_len bar S1
  refine Ev.step (fun k => by rw [spec_l18Find.j2]) ?_
  rw [hrd, barL_rd bar S1 kk hk, w64s kk (by omega)]
  exact evT (by omega) (evT (by omega) (evT (by omega) (evT (by omega) (evT (by omega) hE))))
theorem bar_l0 (bar : Int) (most : Nat) (hm : most ≤ 9) (xs : List Int) (i : Nat) (S S1 : List Int) (kk : Nat) (hk : kk ≤ S.length) (hc : kk < most) (h8 : S.length ≤ 8) (hS1 : S1 = if kk = S.length then S ++ [0] else S) {R : List Int × Bool}
    (h : Ev (fun k => spec_l18Find.j2 k bar xs (i : Int) (barL bar S) (most : Int) (kk : Int) (barL bar S1)) R) : Ev (fun k => spec_l18Find.l0 k bar xs (i : Int) (barL bar S) (most : Int) (kk : Int)) R := by
  have hl := barL_len bar S
  refine Ev.step (fun k => by rw [spec_l18Find.l0]) ?_
  refine evT (by omega) ?_
  refine Ev.step (fun k => by rw [spec_l18Find.j1]) ?_
  refine evT (decide_eq_true (by omega)) (evB rfl (evT (by rw [hl]; simp; omega) (evB rfl ?_)))
  by_cases c : kk = S.length
  · rw [if_pos c] at hS1
    refine evT (by omega) (evT (by simp [hl]; omega) ?_)
    have e : barL bar S1 = ([] : List Int) ++ barL bar S ++ [bar] := by rw [hS1]; unfold barL; simp
    rw [e] at h
    exact h
  · rw [if_neg c] at hS1
    rw [hS1] at h
    exact evF (by omega) h
theorem bar_l0n (bar : Int) (most : Nat) (xs : List Int) (i : Nat) (S : List Int) (kk : Nat) (hc : ¬ (kk ≤ S.length ∧ kk < most)) : Ev (fun k => spec_l18Find.l0 k bar xs (i : Int) (barL bar S) (most : Int) (kk : Int)) (barR none) := by
  have hl := barL_len bar S
  refine Ev.step (fun k => by rw [spec_l18Find.l0]) ?_
  by_cases c : kk ≤ S.length
  · refine evT (by omega) ?_
    refine Ev.step (fun k => by rw [spec_l18Find.j1]) ?_
    exact evF (by simp; omega) (evSome _)
  · refine evF (by omega) ?_
    refine Ev.step (fun k => by rw [spec_l18Find.j1]) ?_
    exact evF (by decide) (evSome _)
theorem bar_find (bar : Int) (hbar : 1 ≤ bar ∧ bar ≤ 1000) (most : Nat) (hm : most ≤ 9) (xs : List Int) (hx : ∀ x ∈ xs, 1 ≤ x ∧ x ≤ bar) (h8 : xs.length ≤ 8) : ∀ ps i S, xs.drop i = ps → i ≤ xs.length → (∀ x ∈ S, 0 ≤ x ∧ x ≤ bar) → S.length ≤ i →
    ∃ o : Option (List Int), (∀ P, impl_bestBars.put bar most ps P S = o.map (P ++ ·)) ∧ (∀ l, o = some l → l.length ≤ ps.length) ∧ Ev (fun k => spec_l18Find.f k bar xs (i : Int) (barL bar S) (most : Int)) (barR o)
  | [], i, S, hd, hi, _, _ => by
    have hl : i = xs.length := by have := congrArg List.length hd; rw [List.length_drop] at this; simp at this; omega
    refine ⟨some [], fun P => by rw [impl_bestBars.put]; simp, fun l e => by injection e with e; subst e; simp, ?_⟩
    refine Ev.step (fun k => by rw [spec_l18Find.f]) ?_
    exact evT (by omega) (evSome _)
  | p :: ps, i, S, hd, hi, hS, hle => by
    have hlt : i < xs.length := by have := congrArg List.length hd; rw [List.length_drop, List.length_cons] at this; omega
    have hp : xs.getD i 0 = p := by
      have := congrArg (fun l => l.getD 0 0) hd
      simp only [List.getD_eq_getElem?_getD, List.getElem?_drop, Nat.add_zero] at this
      rw [List.getD_eq_getElem?_getD, this]; rfl
    have hpp : 1 ≤ p ∧ p ≤ bar := hx p (by rw [← hp, List.getD_eq_getElem?_getD, List.getElem?_eq_getElem hlt]; exact List.getElem_mem hlt)
    have hd2 : xs.drop (i + 1) = ps := by rw [← List.tail_drop, hd]; rfl
    have hpl : ps.length + (i + 1) = xs.length := by have := congrArg List.length hd2; rw [List.length_drop] at this; omega
    have key : ∀ d, d ≤ S.length → ∃ o : Option (List Int), (∀ P, impl_bestBars.loop (impl_bestBars.put bar most ps) bar p most P S d = o.map (P ++ ·)) ∧ (∀ l, o = some l → l.length ≤ ps.length + 1) ∧ Ev (fun k => spec_l18Find.l0 k bar xs (i : Int) (barL bar S) (most : Int) ((S.length - d : Nat) : Int)) (barR o) := by
      intro d
      induction d with
      | zero =>
        intro _
        by_cases c : S.length < most
        · have hS1 : ∀ x ∈ S ++ [(0 : Int)], 0 ≤ x ∧ x ≤ bar := fun x hx2 => by
            rcases List.mem_append.mp hx2 with h3 | h3
            · exact hS x h3
            · rw [List.mem_singleton.mp h3]; omega
          have hk : S.length < (S ++ [(0 : Int)]).length := by rw [List.length_append, List.length_singleton]; omega
          obtain ⟨oi, q1, q2, q3⟩ := bar_find bar hbar most hm xs hx h8 ps (i + 1) ((S ++ [0]).set S.length ((S ++ [0]).getD S.length 0 + p)) hd2 (by omega) (bar_set01 hS1 (by rw [bar_new]; omega)) (by rw [List.length_set, List.length_append, List.length_singleton]; omega)
          obtain ⟨o, r1, r2, r3⟩ := bar_j2 bar hbar most xs h8 p ps (by omega) i hlt hp hpp (barL bar S) (S ++ [0]) S.length hk hS1 (by rw [List.length_append, List.length_singleton]; omega) ⟨oi, q1, q2, fun _ => q3⟩ (fun _ => none) none (fun _ => rfl) (fun l e => by cases e) (bar_l0n bar most xs i S (S.length + 1) (by omega))
          refine ⟨o, fun P => by rw [impl_bestBars.loop, if_pos c]; exact r1 P, r2, ?_⟩
          exact bar_l0 bar most hm xs i S (S ++ [0]) S.length (Nat.le_refl _) c (by omega) (by rw [if_pos rfl]) r3
        · refine ⟨none, fun P => by rw [impl_bestBars.loop, if_neg c]; rfl, fun l e => (by cases e), bar_l0n bar most xs i S (S.length - 0) (by omega)⟩
      | succ d ih =>
        intro hd'
        obtain ⟨o', n1, n2, n3⟩ := ih (by omega)
        obtain ⟨kk, hkk⟩ : ∃ kk, kk = S.length - (d + 1) := ⟨_, rfl⟩
        have hk : kk < S.length := by omega
        rw [← hkk]
        by_cases c : kk < most
        · rw [show S.length - d = kk + 1 by omega] at n3
          by_cases c2 : S.getD kk 0 + p ≤ bar
          · obtain ⟨oi, q1, q2, q3⟩ := bar_find bar hbar most hm xs hx h8 ps (i + 1) (S.set kk (S.getD kk 0 + p)) hd2 (by omega) (bar_set01 hS (by
              have : 0 ≤ S.getD kk 0 := by rw [List.getD_eq_getElem?_getD, List.getElem?_eq_getElem hk]; exact (hS _ (List.getElem_mem hk)).1
              omega)) (by rw [List.length_set]; omega)
            obtain ⟨o, r1, r2, r3⟩ := bar_j2 bar hbar most xs h8 p ps (by omega) i hlt hp hpp (barL bar S) S kk hk hS (by omega) ⟨oi, q1, q2, fun _ => q3⟩ (fun P => impl_bestBars.loop (impl_bestBars.put bar most ps) bar p most P S d) o' n1 n2 n3
            refine ⟨o, fun P => by rw [impl_bestBars.loop, ← hkk, if_pos c]; exact r1 P, r2, ?_⟩
            exact bar_l0 bar most hm xs i S S kk (by omega) c (by omega) (by rw [if_neg (by omega)]) r3
          · refine ⟨o', fun P => ?_, n2, ?_⟩
            · rw [impl_bestBars.loop, ← hkk, if_pos c]
              unfold impl_bestBars.stp
              rw [if_neg c2]
              exact n1 P
            · refine bar_l0 bar most hm xs i S S kk (by omega) c (by omega) (by rw [if_neg (by omega)]) ?_
              exact bar_j2n bar hbar most xs h8 p i hlt hp hpp (barL bar S) S kk hk hS (by omega) c2 n3
        · exact ⟨none, fun P => by rw [impl_bestBars.loop, ← hkk, if_neg c]; rfl, fun l e => (by cases e), bar_l0n bar most xs i S kk (by omega)⟩
    obtain ⟨o, h1, h2, h3⟩ := key S.length (Nat.le_refl _)
    refine ⟨o, fun P => by rw [impl_bestBars.put]; exact h1 P, fun l e => by rw [List.length_cons]; exact h2 l e, ?_⟩
    rw [Nat.sub_self] at h3
    refine Ev.step (fun k => by rw [spec_l18Find.f]) ?_
    exact evF (by omega) h3
/-! barTop -/
theorem bar_stp_inv2 {rec : List Int → List Int → Option (List Int)} {bar p : Int} {P S1 r : List Int} {k : Nat} {nx : Option (List Int)} (h : impl_bestBars.stp rec bar p P S1 k nx = some r) : rec (P ++ [(k : Int)]) (S1.set k (S1.getD k 0 + p)) = some r ∨ nx = some r := by
  unfold impl_bestBars.stp at h
  split at h
  · split at h
    · rename_i q hq
      exact .inl (hq.trans h)
    · exact .inr h
  · exact .inr h
theorem bar_ent (bar : Int) (most : Nat) : ∀ ps P S r, impl_bestBars.put bar most ps P S = some r → (∀ x ∈ P, 0 ≤ x ∧ x ≤ (100 : Int)) → S.length + ps.length ≤ 100 → (∀ x ∈ r, 0 ≤ x ∧ x ≤ (100 : Int)) ∧ r.length = P.length + ps.length
  | [], P, S, r, h, hP, _ => by
    rw [impl_bestBars.put] at h
    obtain rfl := Option.some.inj h
    exact ⟨hP, by simp⟩
  | p :: ps, P, S, r, h, hP, hl => by
    rw [impl_bestBars.put] at h
    rw [List.length_cons] at hl
    have hP2 : ∀ k : Nat, k ≤ 100 → ∀ x ∈ P ++ [(k : Int)], 0 ≤ x ∧ x ≤ (100 : Int) := fun k hk x hx => by
      rcases List.mem_append.mp hx with h1 | h1
      · exact hP x h1
      · rw [List.mem_singleton.mp h1]; omega
    have key : ∀ d, d ≤ S.length → impl_bestBars.loop (impl_bestBars.put bar most ps) bar p most P S d = some r → (∀ x ∈ r, 0 ≤ x ∧ x ≤ (100 : Int)) ∧ r.length = P.length + (p :: ps).length := by
      intro d
      induction d with
      | zero =>
        intro _ h
        rw [impl_bestBars.loop] at h
        split at h
        · rcases bar_stp_inv2 h with h2 | h2
          · have h3 := bar_ent bar most ps _ _ r h2 (hP2 S.length (by omega)) (by rw [List.length_set, List.length_append, List.length_singleton]; omega)
            rw [List.length_append, List.length_singleton] at h3
            exact ⟨h3.1, by rw [h3.2, List.length_cons]; omega⟩
          · cases h2
        · cases h
      | succ d ih =>
        intro hd h
        rw [impl_bestBars.loop] at h
        split at h
        · rcases bar_stp_inv2 h with h2 | h2
          · have h3 := bar_ent bar most ps _ _ r h2 (hP2 (S.length - (d + 1)) (by omega)) (by rw [List.length_set]; omega)
            rw [List.length_append, List.length_singleton] at h3
            exact ⟨h3.1, by rw [h3.2, List.length_cons]; omega⟩
          · exact ih (by omega) h2
        · cases h
    exact key S.length (Nat.le_refl _) h
theorem bar_best (bar : Int) (hbar : 1 ≤ bar ∧ bar ≤ 1000) (xs : List Int) (hx : ∀ x ∈ xs, 1 ≤ x ∧ x ≤ bar) (h8 : xs.length ≤ 8) : ∀ d j, j + d = xs.length + 1 → ∀ r, impl_bestBars.go bar xs j d = some r → Ev (fun k => spec_BestBars.l0 k bar xs (j : Int)) (r, true) := by
  intro d
  induction d with
  | zero => intro j _ r h; rw [impl_bestBars.go] at h; cases h
  | succ d ih =>
    intro j hj r h
    obtain ⟨o, h1, _, h3⟩ := bar_find bar hbar j (by omega) xs hx h8 xs 0 [] rfl (Nat.zero_le _) (fun x hx2 => absurd hx2 List.not_mem_nil) (Nat.le_refl _)
    rw [impl_bestBars.go, h1 []] at h
    refine Ev.step (fun k => by rw [spec_BestBars.l0]) ?_
    refine evT (by omega) (Ev.bind h3 ?_)
    cases o with
    | some l =>
      simp only [Option.map_some, List.nil_append] at h
      obtain rfl := Option.some.inj h
      exact evT rfl (evSome _)
    | none =>
      refine evF (by simp [barR]) ?_
      rw [w64s j (by omega)]
      exact ih (j + 1) (by omega) r h
theorem bar_in (lo hi a : Int) : spec_l01In.f a lo hi = some (impl_BarsOk.ok lo hi a) := by
  rw [l01In_eq, Bool.decide_and]; rfl
theorem bars_l0 (a0 : Int) (xs : List Int) (h8 : xs.length ≤ 8) : ∀ d i, i + d = xs.length → Ev (fun k => spec_BarsOk.l0 k a0 xs (xs.length : Int) (i : Int)) ((xs.drop i).all (impl_BarsOk.ok 1 a0)) := by
  intro d
  induction d with
  | zero =>
    intro i hi
    refine Ev.step (fun k => by rw [spec_BarsOk.l0]) ?_
    rw [List.drop_eq_nil_of_le (by omega)]
    exact evF (by omega) (evSome _)
  | succ d ih =>
    intro i hi
    have hl : i < xs.length := by omega
    refine Ev.step (fun k => by rw [spec_BarsOk.l0]) ?_
    rw [w64s i (by omega), List.drop_eq_getElem_cons hl, List.all_cons]
    have hrd : rd xs (i : Int) = xs[i] := by unfold rd; rw [Int.toNat_natCast]; exact getD_eq xs i 0 hl
    rw [hrd]
    refine evT (by omega) (evT (by omega) (evT (by omega) (evB (bar_in _ _ _) ?_)))
    cases hb : impl_BarsOk.ok 1 a0 xs[i] with
    | true => rw [Bool.true_and]; exact evT rfl (ih (i + 1) (by omega))
    | false => rw [Bool.false_and]; exact evF (by decide) (evSome _)
def barOk (a0 : Int) (xs : List Int) : Bool := impl_BarsOk.ok 1 1000 a0 && (decide (xs.length ≤ 8) && xs.all (impl_BarsOk.ok 1 a0))
theorem bars_ev (a0 : Int) (xs : List Int) : Ev (fun k => spec_BarsOk.f k a0 xs) (barOk a0 xs) := by
  unfold spec_BarsOk.f barOk
  refine evB (bar_in _ _ _) ?_
  cases h0 : impl_BarsOk.ok 1 1000 a0 with
  | false =>
    rw [Bool.false_and]
    refine evF (by decide) (Ev.step (fun k => by rw [spec_BarsOk.j0]) (evT rfl (evSome _)))
  | true =>
    rw [Bool.true_and]
    refine evT rfl (Ev.step (fun k => by rw [spec_BarsOk.j0]) ?_)
    by_cases c : xs.length ≤ 8
    · rw [decide_eq_true c, Bool.true_and]
      exact evF (by simp; omega) (bars_l0 a0 xs c xs.length 0 (by omega))
    · rw [decide_eq_false c, Bool.false_and]
      exact evT (decide_eq_true (by omega)) (evSome _)
theorem bar_ok_t {a0 : Int} {xs : List Int} (h : barOk a0 xs = true) : (1 ≤ a0 ∧ a0 ≤ 1000) ∧ xs.length ≤ 8 ∧ ∀ x ∈ xs, 1 ≤ x ∧ x ≤ a0 := by
  unfold barOk impl_BarsOk.ok at h
  simp only [Bool.and_eq_true, decide_eq_true_eq, List.all_eq_true] at h
  exact ⟨h.1, h.2.1, h.2.2⟩
theorem bar_go_some (bar : Int) (xs : List Int) (hx : ∀ x ∈ xs, x ≤ bar) : ∀ d j, j + d = xs.length + 1 → 1 ≤ d → ∃ r, impl_bestBars.go bar xs j d = some r
  | 0, _, _, h => by omega
  | d + 1, j, hj, _ => by
    rw [impl_bestBars.go]
    split
    · exact ⟨_, rfl⟩
    · rename_i e
      by_cases c : d = 0
      · obtain ⟨r, hr⟩ := bar_some bar j xs [] [] hx (by simp; omega)
        rw [hr] at e; cases e
      · exact bar_go_some bar xs hx d (j + 1) (by omega) (by omega)
def barB (bar : Int) (xs : List Int) : Int := (xs.sum + bar - 1) / bar
theorem bar_sum0 : ∀ (xs : List Int) (bar : Int), (∀ x ∈ xs, 1 ≤ x ∧ x ≤ bar) → 0 ≤ xs.sum ∧ xs.sum ≤ (xs.length : Int) * bar
  | [], _, _ => by simp
  | a :: S, bar, h => by
    have h1 := bar_sum0 S bar (fun x hx => h x (List.mem_cons_of_mem _ hx))
    have h2 := h a List.mem_cons_self
    rw [List.sum_cons, List.length_cons, Int.natCast_add, Int.add_mul]
    omega
theorem bar_total {xs : List Int} {bar : Int} (hb : 1 ≤ bar ∧ bar ≤ 1000) (h8 : xs.length ≤ 8) (h : ∀ x ∈ xs, 1 ≤ x ∧ x ≤ bar) : 0 ≤ xs.sum ∧ xs.sum ≤ 8000 := by
  have h1 := bar_sum0 xs bar h
  have h2 : (xs.length : Int) * bar ≤ 8 * 1000 := Int.mul_le_mul (by omega) hb.2 (by omega) (by omega)
  omega
theorem bar_bfin {bar s : Int} (hb : 1 ≤ bar ∧ bar ≤ 1000) (hs : 0 ≤ s ∧ s ≤ 8000) : wrap64 (Int.tdiv (wrap64 ((wrap64 (s + bar)) - 1)) bar) = (s + bar - 1) / bar := by
  rw [w64 (x := s + bar) (by omega) (by omega), w64 (x := s + bar - 1) (by omega) (by omega), Int.tdiv_eq_ediv_of_nonneg (by omega)]
  have h1 : 0 ≤ (s + bar - 1) / bar := Int.ediv_nonneg (by omega) (by omega)
  have h2 : (s + bar - 1) / bar ≤ s + bar - 1 := Int.ediv_le_self _ (by omega)
  exact w64 (by omega) (by omega)
theorem bar_pre {xs : List Int} {bar : Int} (hb : 1 ≤ bar ∧ bar ≤ 1000) (h8 : xs.length ≤ 8) (h : ∀ x ∈ xs, 1 ≤ x ∧ x ≤ bar) {i : Nat} (hi : i < xs.length) : wrap64 ((xs.take i).sum + rd xs (i : Int)) = (xs.take (i + 1)).sum := by
  have hrd : rd xs (i : Int) = xs[i] := by unfold rd; rw [Int.toNat_natCast]; exact getD_eq xs i 0 hi
  have e : (xs.take (i + 1)).sum = (xs.take i).sum + rd xs (i : Int) := by rw [hrd, take_succ' xs i hi, List.sum_append]; simp
  rw [← e]
  have h1 := bar_total (xs := xs.take (i + 1)) hb (by rw [List.length_take]; omega) (fun x hx => h x (List.mem_of_mem_take hx))
  exact w64 (by omega) (by omega)
theorem bar_bspec {xs : List Int} {bar : Int} (hb : 1 ≤ bar ∧ bar ≤ 1000) (h8 : xs.length ≤ 8) (h : ∀ x ∈ xs, 1 ≤ x ∧ x ≤ bar) : ∀ d i, i + d = xs.length → Ev (fun k => spec_BarBound.l0 k bar (xs.take i).sum xs (xs.length : Int) (i : Int)) (barB bar xs) := by
  intro d
  induction d with
  | zero =>
    intro i hi
    refine Ev.step (fun k => by rw [spec_BarBound.l0]) ?_
    rw [List.take_of_length_le (by omega), bar_bfin hb (bar_total hb h8 h)]
    exact evF (by omega) (evF (by omega) (evSome _))
  | succ d ih =>
    intro i hi
    refine Ev.step (fun k => by rw [spec_BarBound.l0]) ?_
    rw [bar_pre hb h8 h (by omega), w64s i (by omega)]
    exact evT (by omega) (evT (by omega) (evT (by omega) (ih (i + 1) (by omega))))
theorem bar_bimpl {xs : List Int} {bar : Int} (hb : 1 ≤ bar ∧ bar ≤ 1000) (h8 : xs.length ≤ 8) (h : ∀ x ∈ xs, 1 ≤ x ∧ x ≤ bar) : ∀ d i, i + d = xs.length → Ev (fun k => impl_BarBound.l0 k bar (xs.take i).sum xs (xs.length : Int) (i : Int)) (barB bar xs) := by
  intro d
  induction d with
  | zero =>
    intro i hi
    refine Ev.step (fun k => by rw [impl_BarBound.l0]) ?_
    rw [List.take_of_length_le (by omega), bar_bfin hb (bar_total hb h8 h)]
    exact evF (by omega) (evF (by omega) (evSome _))
  | succ d ih =>
    intro i hi
    refine Ev.step (fun k => by rw [impl_BarBound.l0]) ?_
    rw [bar_pre hb h8 h (by omega), w64s i (by omega)]
    exact evT (by omega) (evT (by omega) (evT (by omega) (ih (i + 1) (by omega))))
def barC : List Int → Int → Int
  | [], s => s
  | x :: l, s => barC l (mx s (x + 1))
theorem barC_le : ∀ (l : List Int) (s : Int), (∀ x ∈ l, 0 ≤ x ∧ x ≤ (100 : Int)) → 0 ≤ s ∧ s ≤ 101 → 0 ≤ barC l s ∧ barC l s ≤ 101
  | [], _, _, h => h
  | x :: l, s, hl, h => by
    rw [barC]
    have := hl x List.mem_cons_self
    refine barC_le l _ (fun y hy => hl y (List.mem_cons_of_mem _ hy)) ?_
    unfold mx
    split <;> omega
theorem bar_cspec (r : List Int) (hr : ∀ x ∈ r, 0 ≤ x ∧ x ≤ (100 : Int)) (h8 : r.length ≤ 8) : ∀ d i, i + d = r.length → ∀ s, 0 ≤ s ∧ s ≤ 101 → Ev (fun k => spec_CountBars.l0 k s r (r.length : Int) (i : Int)) (barC (r.drop i) s) := by
  intro d
  induction d with
  | zero =>
    intro i hi s hs
    refine Ev.step (fun k => by rw [spec_CountBars.l0]) ?_
    rw [List.drop_eq_nil_of_le (by omega)]
    exact evF (by omega) (evSome _)
  | succ d ih =>
    intro i hi s hs
    have hl : i < r.length := by omega
    have hrd : rd r (i : Int) = r[i] := by unfold rd; rw [Int.toNat_natCast]; exact getD_eq r i 0 hl
    have hx := hr r[i] (List.getElem_mem hl)
    refine Ev.step (fun k => by rw [spec_CountBars.l0]) ?_
    rw [hrd, w64s i (by omega), w64 (x := r[i] + 1) (by omega) (by omega), List.drop_eq_getElem_cons hl, barC]
    refine evT (by omega) (evT (by omega) (evT (by omega) (evB (l01In_t hx.1 hx.2) (evT rfl ?_))))
    refine ih (i + 1) (by omega) _ ?_
    unfold mx
    split <;> omega
theorem bar_cimpl (r : List Int) (hr : ∀ x ∈ r, 0 ≤ x ∧ x ≤ (100 : Int)) (h8 : r.length ≤ 8) : ∀ d i, i + d = r.length → ∀ s, 0 ≤ s ∧ s ≤ 101 → Ev (fun k => impl_CountBars.l0 k (s - 1) r (r.length : Int) (i : Int)) (barC (r.drop i) s) := by
  intro d
  induction d with
  | zero =>
    intro i hi s hs
    refine Ev.step (fun k => by rw [impl_CountBars.l0]) ?_
    rw [List.drop_eq_nil_of_le (by omega), w64 (x := s - 1 + 1) (by omega) (by omega), show s - 1 + 1 = s by omega]
    exact evF (by omega) (evSome _)
  | succ d ih =>
    intro i hi s hs
    have hl : i < r.length := by omega
    have hrd : rd r (i : Int) = r[i] := by unfold rd; rw [Int.toNat_natCast]; exact getD_eq r i 0 hl
    have hx := hr r[i] (List.getElem_mem hl)
    refine Ev.step (fun k => by rw [impl_CountBars.l0]) ?_
    rw [hrd, w64s i (by omega), List.drop_eq_getElem_cons hl, barC, show mx (s - 1) r[i] = mx s (r[i] + 1) - 1 by unfold mx; split <;> split <;> omega]
    refine evT (by omega) (evT (by omega) (evT (by omega) (evB (within_t hx.1 hx.2) (evT rfl ?_))))
    refine ih (i + 1) (by omega) _ ?_
    unfold mx
    split <;> omega
theorem bar_numsz (r : List Int) (hr : ∀ x ∈ r, 0 ≤ x ∧ x ≤ (100 : Int)) (h8 : r.length ≤ 8) : (numsB r).size ≤ 8000000 := by
  unfold numsB
  rw [if_neg (by omega)]
  unfold dashB
  split
  · rw [show (⟨#[45]⟩ : ByteArray).size = 1 from rfl]; omega
  · have := joinB_size (r.map itob) ⟨#[44]⟩ (words_small r (fun x hx => by have := hr x hx; unfold I64'; omega)) (by rw [show (⟨#[44]⟩ : ByteArray).size = 1 from rfl]; omega)
    rw [List.length_map] at this
    omega
theorem bar_app (a b : ByteArray) : (a ++ b).size = a.size + b.size := ByteArray.size_append
theorem bar_itob (n : Int) (h : I64' n) : (itob n).size ≤ 20 := by unfold itob; rw [ba_size]; exact itoa_len n h
theorem bar_line (a0 : Int) (xs : List Int) : ∃ r, Ev (fun k => spec_BarLine.f k a0 xs) r ∧ Ev (fun k => impl_BarLine.f k a0 xs) r := by
  unfold spec_BarLine.f impl_BarLine.f spec_BestBars.f impl_BestBars.f
  have hs := bars_ev a0 xs
  have hi : impl_BarsOk.f a0 xs = some (barOk a0 xs) := rfl
  rw [hi]
  simp only [Option.bind_some]
  cases hP : barOk a0 xs with
  | false =>
    rw [hP] at hs
    refine ⟨⟨#[110, 111, 110, 101]⟩, Ev.bind (Ev.bind hs (evF (by decide) (evSome _))) (evF (by decide) (evSome _)), ?_⟩
    simp only [Bool.false_eq_true, if_false, Option.bind_some]
    exact evSome _
  | true =>
    rw [hP] at hs hi
    obtain ⟨hb, h8, hx⟩ := bar_ok_t hP
    obtain ⟨r, hr⟩ := bar_go_some a0 xs (fun x hx2 => (hx x hx2).2) (xs.length + 1) 0 (by omega) (by omega)
    have hf : impl_bestBars.f a0 xs = some r := by
      unfold impl_bestBars.f
      rw [if_pos]
      · exact hr
      · unfold impl_bestBars.ok
        simp only [Bool.and_eq_true, decide_eq_true_eq, List.all_eq_true]
        exact ⟨hb, h8, hx⟩
    have ht := bar_total hb h8 hx
    have hs0 := bar_sum0 xs a0 hx
    have hB0 : 0 ≤ barB a0 xs := Int.ediv_nonneg (by omega) (by omega)
    have hBm : barB a0 xs * a0 ≤ xs.sum + a0 - 1 := Int.ediv_mul_le _ (by omega)
    have hBn : barB a0 xs < (xs.length : Int) + 1 := by
      refine Int.lt_of_mul_lt_mul_right (a := a0) ?_ (by omega)
      rw [Int.add_mul]
      omega
    obtain ⟨b, hbb⟩ : ∃ b : Nat, barB a0 xs = (b : Int) := ⟨(barB a0 xs).toNat, by omega⟩
    have hskip := bar_skip a0 xs b 0 (xs.length + 1 - b) (fun i _ hi2 => bar_none (by omega) (by
      have : ((i : Int) + 1) * a0 ≤ (b : Int) * a0 := Int.mul_le_mul_of_nonneg_right (by omega) (by omega)
      rw [hbb] at hBm
      rw [Int.add_mul] at this
      omega))
    rw [show xs.length + 1 - b + b = xs.length + 1 by omega, Nat.zero_add, hr] at hskip
    have hbest := bar_best a0 hb xs hx h8 (xs.length + 1 - b) b (by omega) r hskip.symm
    have hent : (∀ x ∈ r, 0 ≤ x ∧ x ≤ (100 : Int)) ∧ r.length = xs.length := by
      have : ∀ d j, impl_bestBars.go a0 xs j d = some r → (∀ x ∈ r, 0 ≤ x ∧ x ≤ (100 : Int)) ∧ r.length = xs.length := by
        intro d
        induction d with
        | zero => intro j h; rw [impl_bestBars.go] at h; cases h
        | succ d ih =>
          intro j h
          rw [impl_bestBars.go] at h
          split at h
          · rename_i q hq
            obtain rfl := Option.some.inj h
            have := bar_ent a0 j xs [] [] _ hq (fun x hx2 => absurd hx2 List.not_mem_nil) (by simp; omega)
            exact ⟨this.1, by rw [this.2]; simp⟩
          · exact ih (j + 1) h
      exact this _ _ hr
    have hC := barC_le r 0 hent.1 ⟨by omega, by omega⟩
    have cs := bar_cspec r hent.1 (by omega) r.length 0 (by omega) 0 ⟨by omega, by omega⟩
    have ci := bar_cimpl r hent.1 (by omega) r.length 0 (by omega) 0 ⟨by omega, by omega⟩
    rw [List.drop_zero] at cs ci
    have hI : ∀ x ∈ r, I64' x := fun x hx2 => by have := hent.1 x hx2; unfold I64'; omega
    have ns := spec_nums_ev r hI (by omega)
    have ni := impl_nums_ev r hI (by omega)
    have nz := bar_numsz r hent.1 (by omega)
    have iC : I64' (barC r 0) := by unfold I64'; omega
    have iB : I64' (barB a0 xs) := by unfold I64'; omega
    have zC := bar_itob _ iC
    have zB := bar_itob _ iB
    have sB : Ev (fun k => spec_BarBound.f k a0 xs) (barB a0 xs) := by
      unfold spec_BarBound.f
      exact Ev.bind hs (evT rfl (bar_bspec hb h8 hx xs.length 0 (by omega)))
    have jB : Ev (fun k => impl_BarBound.f k a0 xs) (barB a0 xs) := by
      unfold impl_BarBound.f
      exact evB hi (evT rfl (bar_bimpl hb h8 hx xs.length 0 (by omega)))
    have cs2 : Ev (fun k => spec_CountBars.f k r) (barC r 0) := cs
    have ci2 : Ev (fun k => impl_CountBars.f k r) (barC r 0) := ci
    refine ⟨((((⟨#[98, 97, 114, 115, 32]⟩ : ByteArray) ++ itob (barC r 0)) ++ (⟨#[32, 98, 111, 117, 110, 100, 32]⟩ : ByteArray)) ++ itob (barB a0 xs)) ++ (⟨#[32, 112, 108, 97, 110, 32]⟩ : ByteArray) ++ numsB r, ?_, ?_⟩
    · refine Ev.bind (Ev.bind hs (evT rfl (Ev.bind sB (by rw [hbb]; exact hbest)))) (evT rfl ?_)
      refine Ev.bind cs2 (Ev.bind (spec_fmt_ev _ iC) (evT (by omega) (evT (by simp only [bar_app, show (⟨#[98, 97, 114, 115, 32]⟩ : ByteArray).size = 5 from rfl]; omega) ?_)))
      refine Ev.bind sB (Ev.bind (spec_fmt_ev _ iB) (evT (by simp only [bar_app, show (⟨#[98, 97, 114, 115, 32]⟩ : ByteArray).size = 5 from rfl, show (⟨#[32, 98, 111, 117, 110, 100, 32]⟩ : ByteArray).size = 7 from rfl]; omega) (evT (by simp only [bar_app, show (⟨#[98, 97, 114, 115, 32]⟩ : ByteArray).size = 5 from rfl, show (⟨#[32, 98, 111, 117, 110, 100, 32]⟩ : ByteArray).size = 7 from rfl]; omega) ?_)))
      refine Ev.bind ns (evT (by simp only [bar_app, show (⟨#[98, 97, 114, 115, 32]⟩ : ByteArray).size = 5 from rfl, show (⟨#[32, 98, 111, 117, 110, 100, 32]⟩ : ByteArray).size = 7 from rfl, show (⟨#[32, 112, 108, 97, 110, 32]⟩ : ByteArray).size = 6 from rfl]; omega) (evSome _))
    · simp only [hf, if_true, Option.bind_some]
      refine Ev.bind ci2 (evB (impl_fmt _ iC) (evT (by omega) (evT (by simp only [bar_app, show (⟨#[98, 97, 114, 115, 32]⟩ : ByteArray).size = 5 from rfl]; omega) ?_)))
      refine Ev.bind jB (evB (impl_fmt _ iB) (evT (by simp only [bar_app, show (⟨#[98, 97, 114, 115, 32]⟩ : ByteArray).size = 5 from rfl, show (⟨#[32, 98, 111, 117, 110, 100, 32]⟩ : ByteArray).size = 7 from rfl]; omega) (evT (by simp only [bar_app, show (⟨#[98, 97, 114, 115, 32]⟩ : ByteArray).size = 5 from rfl, show (⟨#[32, 98, 111, 117, 110, 100, 32]⟩ : ByteArray).size = 7 from rfl]; omega) ?_)))
      refine Ev.bind ni (evT (by simp only [bar_app, show (⟨#[98, 97, 114, 115, 32]⟩ : ByteArray).size = 5 from rfl, show (⟨#[32, 98, 111, 117, 110, 100, 32]⟩ : ByteArray).size = 7 from rfl, show (⟨#[32, 112, 108, 97, 110, 32]⟩ : ByteArray).size = 6 from rfl]; omega) (evSome _))

theorem FnExactBarLine : ∀ (a0 : Int) (l1 : List (Int)), Opens.I64 a0 → (l1.length ≤ 9223372036854775807 ∧ ∀ x ∈ l1, Opens.I64 x) → ∃ k, laws_FnExactBarLine.f k a0 l1 = some true := by
  intro a0 l0 g0 g1
  refine Ev.rounds (g := fun k => laws_FnExactBarLine.f k a0 l0) ?_
  unfold laws_FnExactBarLine.f
  by_cases hb : (l0.length : Int) > 1048576
  · exact evT hb (evSome _)
  · refine evF hb ?_
    have hT := toIntS_ev l0 (by omega)
    obtain ⟨b, h1, h2⟩ := bar_line a0 l0
    refine Ev.bind hT (Ev.bind h1 (Ev.bind hT (Ev.bind h2 (evT rfl (Ev.bind hT (Ev.bind (eqIntS_ev _ (by omega)) (evT rfl (evSome _))))))))

end Go.Proofs.YtelhjgkjnlcomaaDoor.Pure
