/- FnExactPlanLine: for every width, height and list of lists of ints, PlanLine of the program and of the reference answer alike and leave the argument as it is. No condition. -/
import Derived.Test.YtndlmckfacegeaaDoorQFnExactPlanLinex8
import Derived.Test.YtndlmckfacegeaaDoorOpens
namespace Go.Proofs.YtndlmckfacegeaaDoor.Pure
open Go.RowKit Go.Proofs.YtndlmckfacegeaaDoor Go.Proofs.YtndlmckfacegeaaDoor.QFnExactPlanLine Go.Proofs.YtndlmckfacegeaaDoorW.PrintWords Go.Proofs.YtndlmckfacegeaaDoorW.PrintLast
set_option linter.unusedVariables false
set_option linter.unusedSimpArgs false

/-! base -/
theorem w64 {x : Int} (h0 : -9223372036854775808 ≤ x) (h1 : x ≤ 9223372036854775807) : wrap64 x = x := by unfold wrap64; omega
theorem w64n (n : Nat) (h : n ≤ 9223372036854775807) : wrap64 (n : Int) = n := w64 (by omega) (by omega)
theorem w64s (n : Nat) (h : n < 9223372036854775807) : wrap64 ((n : Int) + 1) = ((n + 1 : Nat) : Int) := by rw [w64 (by omega) (by omega)]; omega
theorem evSome {α : Type} (r : α) : Ev (fun _ : Nat => some r) r := ⟨0, fun _ _ => rfl⟩
theorem evOf {α : Type} {f : Option α} {r : α} (h : f = some r) : Ev (fun _ : Nat => f) r := ⟨0, fun _ _ => h⟩
theorem evUniq {α : Type} {g : Nat → Option α} {r q : α} (h : Ev g r) (k : Ev g q) : r = q := by
  obtain ⟨a, ha⟩ := h
  obtain ⟨b, hb⟩ := k
  have h1 := ha (a + b) (by omega)
  rw [hb (a + b) (by omega)] at h1
  exact (Option.some.inj h1).symm
theorem evIf {α : Type} {c : Prop} [Decidable c] {f g : Nat → Option α} {r : α} (hp : c → Ev f r) (hn : ¬ c → Ev g r) : Ev (fun k => if c then f k else g k) r := by
  by_cases h : c
  · simp only [if_pos h]; exact hp h
  · simp only [if_neg h]; exact hn h
theorem evT {α : Type} {c : Prop} [Decidable c] {f g : Nat → Option α} {r : α} (h : c) (hp : Ev f r) : Ev (fun k => if c then f k else g k) r := by
  simp only [if_pos h]; exact hp
theorem evF {α : Type} {c : Prop} [Decidable c] {f g : Nat → Option α} {r : α} (h : ¬ c) (hp : Ev g r) : Ev (fun k => if c then f k else g k) r := by
  simp only [if_neg h]; exact hp
theorem evB {α β : Type} {f : Option α} {g : Nat → α → Option β} {a : α} {r : β} (h : f = some a) (k : Ev (fun n => g n a) r) : Ev (fun n => f.bind (g n)) r := by
  subst h
  exact k
theorem getD_eq {α : Type} (l : List α) (i : Nat) (z : α) (h : i < l.length) : l.getD i z = l[i] := by
  rw [List.getD_eq_getElem?_getD, List.getElem?_eq_getElem h]; rfl
theorem take_succ' {α : Type} (l : List α) (i : Nat) (h : i < l.length) : l.take (i + 1) = l.take i ++ [l[i]] := by
  rw [List.take_succ_eq_append_getElem h]
theorem set_fill {α : Type} (l : List α) (z x : α) (i d : Nat) (hi : l.length = i) : (l ++ List.replicate (d + 1) z).set i x = l ++ [x] ++ List.replicate d z := by
  subst hi
  rw [List.set_append_right _ _ (Nat.le_refl _), Nat.sub_self, List.replicate_succ, List.set_cons_zero, List.append_assoc]
  rfl
theorem drop_cons {α : Type} (l : List α) (i : Nat) (h : i < l.length) : l.drop i = l[i] :: l.drop (i + 1) := List.drop_eq_getElem_cons h
/-! laws_toIntS -/
theorem toIntS_l0 (l : List Int) (hl : l.length ≤ 9223372036854775806) : ∀ d i : Nat, i + d = l.length → Ev (fun k => laws_toIntS.l0 k l (l.take i ++ List.replicate d 0) (i : Int)) l := by
  intro d
  induction d with
  | zero =>
    intro i hi
    refine Ev.step (fun k => by rw [laws_toIntS.l0]) ?_
    refine evF (by omega) ?_
    have : l.take i ++ List.replicate 0 0 = l := by rw [List.take_of_length_le (by omega)]; simp
    rw [this]
    exact evSome _
  | succ d ih =>
    intro i hi
    refine Ev.step (fun k => by rw [laws_toIntS.l0]) ?_
    refine evT (by omega) (evT (by omega) (evT (by simp; omega) ?_))
    rw [w64s i (by omega), show ((i : Int)).toNat = i from by omega, set_fill _ _ _ _ _ (by rw [List.length_take]; omega)]
    have h2 : rd l (i : Int) = l[i] := by unfold rd; rw [show ((i : Int)).toNat = i from by omega]; exact getD_eq _ _ _ (by omega)
    rw [h2, ← take_succ' l i (by omega)]
    exact ih (i + 1) (by omega)
theorem toIntS_ev (l : List Int) (hl : l.length ≤ 1048576) : Ev (fun k => laws_toIntS.f k l) l := by
  unfold laws_toIntS.f
  refine evT (by omega) (evT (by omega) ?_)
  have h := toIntS_l0 l (by omega) l.length 0 (by omega)
  simpa using h
/-! laws_toIntSS -/
theorem toIntSS_l0 (l : List (List Int)) (hl : l.length ≤ 1048576) (hx : ∀ x ∈ l, x.length ≤ 1048576) : ∀ d i : Nat, i + d = l.length → Ev (fun k => laws_toIntSS.l0 k l (l.take i ++ List.replicate d []) (i : Int)) l := by
  intro d
  induction d with
  | zero =>
    intro i hi
    refine Ev.step (fun k => by rw [laws_toIntSS.l0]) ?_
    refine evF (by omega) ?_
    have : l.take i ++ List.replicate 0 [] = l := by rw [List.take_of_length_le (by omega)]; simp
    rw [this]
    exact evSome _
  | succ d ih =>
    intro i hi
    have h2 : rd_L1 l (i : Int) = l[i] := by unfold rd_L1; rw [show ((i : Int)).toNat = i from by omega]; exact getD_eq _ _ _ (by omega)
    refine Ev.step (fun k => by rw [laws_toIntSS.l0]) ?_
    refine evT (by omega) (evT (by omega) ?_)
    rw [h2]
    refine Ev.bind (toIntS_ev _ (hx _ (List.getElem_mem _))) ?_
    refine evT (by simp; omega) ?_
    rw [w64s i (by omega), show ((i : Int)).toNat = i from by omega, set_fill _ _ _ _ _ (by rw [List.length_take]; omega)]
    rw [← take_succ' l i (by omega)]
    exact ih (i + 1) (by omega)
theorem toIntSS_ev (l : List (List Int)) (hl : l.length ≤ 1048576) (hx : ∀ x ∈ l, x.length ≤ 1048576) : Ev (fun k => laws_toIntSS.f k l) l := by
  unfold laws_toIntSS.f
  refine evT (by omega) (evT (by omega) ?_)
  have h := toIntSS_l0 l hl hx l.length 0 (by omega)
  simpa using h
/-! laws_szIntS -/
theorem szIntS_ev (l : List Int) (a : Int) (ha : 0 ≤ a) (ha2 : a ≤ 1048576) (hl : l.length ≤ 9223372036854775807) : (laws_szIntS.f l a = some (-1)) ∨ (laws_szIntS.f l a = some (a - l.length) ∧ 0 ≤ a - (l.length : Int)) := by
  unfold laws_szIntS.f
  rw [w64 (x := a - (l.length : Int)) (by omega) (by omega)]
  by_cases h : a - (l.length : Int) < 0
  · exact .inl (if_pos h)
  · exact .inr ⟨if_neg h, by omega⟩
/-! laws_szIntSS -/
theorem szIntSS_l0 (l : List (List Int)) (hl : l.length ≤ 1048576) (hx : ∀ x ∈ l, x.length ≤ 9223372036854775807) : ∀ d i : Nat, i + d = l.length → ∀ a : Int, 0 ≤ a → a ≤ 1048576 →
    Ev (fun k => laws_szIntSS.l0 k l a (i : Int)) (-1) ∨ ∃ b : Int, Ev (fun k => laws_szIntSS.l0 k l a (i : Int)) b ∧ 0 ≤ b ∧ b ≤ a ∧ ∀ x ∈ l.drop i, x.length ≤ 1048576 := by
  intro d
  induction d with
  | zero =>
    intro i hi a ha ha2
    refine .inr ⟨a, ?_, ha, by omega, by rw [List.drop_of_length_le (by omega)]; simp⟩
    refine Ev.step (fun k => by rw [laws_szIntSS.l0]) ?_
    exact evF (by omega) (evSome _)
  | succ d ih =>
    intro i hi a ha ha2
    have h2 : rd_L1 l (i : Int) = l[i] := by unfold rd_L1; rw [show ((i : Int)).toNat = i from by omega]; exact getD_eq _ _ _ (by omega)
    rcases szIntS_ev l[i] a ha ha2 (hx _ (List.getElem_mem _)) with h | ⟨h, h0⟩
    · left
      refine Ev.step (fun k => by rw [laws_szIntSS.l0]) ?_
      refine evT (by omega) (evT (by omega) ?_)
      rw [h2]
      exact evB h (evT (by omega) (evSome _))
    · rcases ih (i + 1) (by omega) (a - (l[i].length : Int)) h0 (by omega) with h3 | ⟨b, h3, hb0, hba, hd⟩
      · left
        refine Ev.step (fun k => by rw [laws_szIntSS.l0]) ?_
        refine evT (by omega) (evT (by omega) ?_)
        rw [h2]
        refine evB h (evF (by omega) ?_)
        rw [w64s i (by omega)]
        exact h3
      · right
        refine ⟨b, ?_, hb0, by omega, ?_⟩
        · refine Ev.step (fun k => by rw [laws_szIntSS.l0]) ?_
          refine evT (by omega) (evT (by omega) ?_)
          rw [h2]
          refine evB h (evF (by omega) ?_)
          rw [w64s i (by omega)]
          exact h3
        · rw [drop_cons l i (by omega)]
          intro x hxm
          rcases List.mem_cons.1 hxm with rfl | hxm
          · omega
          · exact hd x hxm
theorem szIntSS_ev (l : List (List Int)) (a : Int) (ha : 0 ≤ a) (ha2 : a ≤ 1048576) (hl : l.length ≤ 9223372036854775807) (hx : ∀ x ∈ l, x.length ≤ 9223372036854775807) :
    Ev (fun k => laws_szIntSS.f k l a) (-1) ∨ ∃ b : Int, Ev (fun k => laws_szIntSS.f k l a) b ∧ 0 ≤ b ∧ b ≤ a ∧ l.length ≤ 1048576 ∧ ∀ x ∈ l, x.length ≤ 1048576 := by
  unfold laws_szIntSS.f
  rw [w64 (x := a - (l.length : Int)) (by omega) (by omega)]
  by_cases h : a - (l.length : Int) < 0
  · exact .inl (evT h (evSome _))
  · rcases szIntSS_l0 l (by omega) hx l.length 0 (by omega) (a - (l.length : Int)) (by omega) (by omega) with h3 | ⟨b, h3, hb0, hba, hd⟩
    · exact .inl (evF h h3)
    · exact .inr ⟨b, evF h h3, hb0, by omega, by omega, by simpa using hd⟩
/-! laws_eqIntS -/
theorem eqIntS_l0 (l : List Int) (hl : l.length ≤ 9223372036854775806) : ∀ d i : Nat, i + d = l.length → Ev (fun k => laws_eqIntS.l0 k l l (i : Int)) true := by
  intro d
  induction d with
  | zero =>
    intro i hi
    refine Ev.step (fun k => by rw [laws_eqIntS.l0]) ?_
    exact evF (by omega) (evSome _)
  | succ d ih =>
    intro i hi
    refine Ev.step (fun k => by rw [laws_eqIntS.l0]) ?_
    refine evT (by omega) (evT (by omega) (evT (by omega) (evT rfl ?_)))
    rw [w64s i (by omega)]
    exact ih (i + 1) (by omega)
theorem eqIntS_ev (l : List Int) (hl : l.length ≤ 1048576) : Ev (fun k => laws_eqIntS.f k l l) true := by
  unfold laws_eqIntS.f
  exact evT rfl (by simpa using eqIntS_l0 l (by omega) l.length 0 (by omega))
/-! laws_eqIntSS -/
theorem eqIntSS_l0 (l : List (List Int)) (hl : l.length ≤ 9223372036854775806) (hx : ∀ x ∈ l, x.length ≤ 1048576) : ∀ d i : Nat, i + d = l.length → Ev (fun k => laws_eqIntSS.l0 k l l (i : Int)) true := by
  intro d
  induction d with
  | zero =>
    intro i hi
    refine Ev.step (fun k => by rw [laws_eqIntSS.l0]) ?_
    exact evF (by omega) (evSome _)
  | succ d ih =>
    intro i hi
    have h2 : rd_L1 l (i : Int) = l[i] := by unfold rd_L1; rw [show ((i : Int)).toNat = i from by omega]; exact getD_eq _ _ _ (by omega)
    refine Ev.step (fun k => by rw [laws_eqIntSS.l0]) ?_
    refine evT (by omega) (evT (by omega) (evT (by omega) ?_))
    rw [h2]
    refine Ev.bind (eqIntS_ev _ (hx _ (List.getElem_mem _))) (evT rfl ?_)
    rw [w64s i (by omega)]
    exact ih (i + 1) (by omega)
theorem eqIntSS_ev (l : List (List Int)) (hl : l.length ≤ 1048576) (hx : ∀ x ∈ l, x.length ≤ 1048576) : Ev (fun k => laws_eqIntSS.f k l l) true := by
  unfold laws_eqIntSS.f
  exact evT rfl (by simpa using eqIntSS_l0 l (by omega) hx l.length 0 (by omega))
/-! l01In -/
theorem l01In_t {a lo hi : Int} (h0 : lo ≤ a) (h1 : a ≤ hi) : spec_l01In.f a lo hi = some true := by unfold spec_l01In.f; rw [if_pos h0]; simp [h1]
theorem l01In_f {a lo hi : Int} (h : ¬ (lo ≤ a ∧ a ≤ hi)) : spec_l01In.f a lo hi = some false := by
  unfold spec_l01In.f
  by_cases h0 : lo ≤ a
  · rw [if_pos h0]; simp; omega
  · rw [if_neg h0]
theorem l01In_eq (a lo hi : Int) : spec_l01In.f a lo hi = some (decide (lo ≤ a ∧ a ≤ hi)) := by
  by_cases h : lo ≤ a ∧ a ≤ hi
  · rw [l01In_t h.1 h.2]; simp [h]
  · rw [l01In_f h]; simp; omega
/-! fmtBase -/
def I64' (x : Int) : Prop := -9223372036854775808 ≤ x ∧ x ≤ 9223372036854775807
def itob (n : Int) : ByteArray := ⟨(Lib.itoa n).toArray⟩
theorem ba_ext {a b : ByteArray} (h : a.data.toList = b.data.toList) : a = b := by
  obtain ⟨⟨a⟩⟩ := a
  obtain ⟨⟨b⟩⟩ := b
  exact congrArg (fun l => (⟨⟨l⟩⟩ : ByteArray)) h
theorem ba_size (l : List UInt8) : (⟨l.toArray⟩ : ByteArray).size = l.length := by show l.toArray.size = _; exact List.size_toArray
theorem ba_size' (b : ByteArray) : b.size = b.data.toList.length := by rw [Array.length_toList]; rfl
theorem ba_app (a b : List UInt8) : (⟨a.toArray⟩ : ByteArray) ++ (⟨b.toArray⟩ : ByteArray) = ⟨(a ++ b).toArray⟩ := by
  apply ba_ext
  rw [ByteArray.data_append, Array.toList_append]
theorem ba_app_l (a b : ByteArray) : (a ++ b).data.toList = a.data.toList ++ b.data.toList := by rw [ByteArray.data_append, Array.toList_append]
theorem itob_data (n : Int) : (itob n).data.toList = Lib.itoa n := rfl
theorem one_num (d : Nat) (h : d < 10) : strOfNums [((48 + d : Nat) : Int)] = ⟨([UInt8.ofNat (48 + d)] : List UInt8).toArray⟩ := by
  apply ba_ext
  rw [strOfNums_data, List.map_cons, List.map_nil, Int.toNat_natCast]
theorem dec_len : ∀ (k u : Nat), 1 ≤ k → u < 10 ^ k → (Lib.decDigits u).length ≤ k
  | 0, u, h, _ => by omega
  | k + 1, u, _, h => by
    rw [Lib.decDigits]
    split
    · simp
    · rename_i h9
      rw [List.length_append, List.length_singleton]
      have hk : 1 ≤ k := by
        cases k with
        | zero => simp at h; omega
        | succ k => omega
      have := dec_len k (u / 10) hk (by rw [Nat.pow_succ] at h; omega)
      omega
theorem itoa_len (n : Int) (h : I64' n) : (Lib.itoa n).length ≤ 20 := by
  unfold I64' at h
  unfold Lib.itoa
  split
  · have := dec_len 19 n.natAbs (by decide) (by omega)
    rw [List.length_cons]; omega
  · have := dec_len 19 n.toNat (by decide) (by omega)
    omega
/-! fmtInt -/
theorem one_ch (u : Nat) (h9 : u < 10) : (wrap64 (48 + (u : Int))) % 256 = ((48 + u : Nat) : Int) := by rw [w64 (by omega) (by omega)]; omega
theorem fmt_l0 : ∀ (m : Nat) (u : Nat) (acc : List UInt8), u < 10 ^ (m + 1) → acc.length + m ≤ 1000 → u < 9223372036854775808 → Ev (fun k => spec_FormatInt.l0 k (u : Int) ⟨acc.toArray⟩) ⟨(Lib.decDigits u ++ acc).toArray⟩ := by
  intro m
  induction m with
  | zero =>
    intro u acc hu h2 h1
    have h9 : u < 10 := by simpa using hu
    refine Ev.step (fun k => by rw [spec_FormatInt.l0]) ?_
    refine evF (by omega) ?_
    rw [one_ch u h9]
    refine evB rfl ?_
    rw [one_num u h9]
    refine evT (by rw [ba_size, ba_size]; simp; omega) ?_
    rw [ba_app, Lib.decDigits, dif_pos h9]
    exact evSome _
  | succ m ih =>
    intro u acc hu h2 h1
    refine Ev.step (fun k => by rw [spec_FormatInt.l0]) ?_
    by_cases h9 : u < 10
    · refine evF (by omega) ?_
      rw [one_ch u h9]
      refine evB rfl ?_
      rw [one_num u h9]
      refine evT (by rw [ba_size, ba_size]; simp; omega) ?_
      rw [ba_app, Lib.decDigits, dif_pos h9]
      exact evSome _
    · refine evT (by omega) ?_
      have e0 : Int.tmod (u : Int) 10 = ((u % 10 : Nat) : Int) := by rw [Int.tmod_eq_emod_of_nonneg (by omega)]; omega
      have e1 : Int.tdiv (u : Int) 10 = ((u / 10 : Nat) : Int) := by rw [Int.tdiv_eq_ediv_of_nonneg (by omega)]; omega
      rw [e0, e1, one_ch _ (by omega), w64 (x := ((u / 10 : Nat) : Int)) (by omega) (by omega)]
      refine evB rfl ?_
      rw [one_num (u % 10) (by omega)]
      refine evT (by rw [ba_size, ba_size]; simp; omega) ?_
      rw [ba_app]
      have := ih (u / 10) ([UInt8.ofNat (48 + u % 10)] ++ acc) (by rw [Nat.pow_succ] at hu; omega) (by simp; omega) (by omega)
      rw [Lib.decDigits, dif_neg h9, List.append_assoc]
      exact this
theorem fmt_neg : ∀ (m : Nat) (u : Nat), 1 ≤ u → u < 10 ^ (m + 1) → u ≤ 9223372036854775808 → m ≤ 30 → Ev (fun k => spec_FormatInt.f k (-(u : Int))) ⟨(45 :: Lib.decDigits u).toArray⟩ := by
  intro m
  induction m with
  | zero =>
    intro u h0 hu h1 hm
    have h9 : u < 10 := by simpa using hu
    refine Ev.step (fun k => by rw [spec_FormatInt.f]) ?_
    refine evT (by omega) ?_
    have e1 : Int.tdiv (-(u : Int)) 10 = 0 := by rw [Int.neg_tdiv, Int.tdiv_eq_ediv_of_nonneg (by omega)]; omega
    rw [e1]
    refine evT (w64 (by omega) (by omega)) ?_
    have e : (48 - (-(u : Int))) = 48 + (u : Int) := by omega
    rw [e, one_ch u h9]
    refine evB rfl ?_
    rw [one_num u h9]
    refine evT (by rw [ba_size]; simp) ?_
    rw [Lib.decDigits, dif_pos h9]
    exact evSome _
  | succ m ih =>
    intro u h0 hu h1 hm
    refine Ev.step (fun k => by rw [spec_FormatInt.f]) ?_
    refine evT (by omega) ?_
    have e1 : Int.tdiv (-(u : Int)) 10 = -((u / 10 : Nat) : Int) := by rw [Int.neg_tdiv, Int.tdiv_eq_ediv_of_nonneg (by omega)]; omega
    have e0 : Int.tmod (-(u : Int)) 10 = -((u % 10 : Nat) : Int) := by rw [Int.neg_tmod, Int.tmod_eq_emod_of_nonneg (by omega)]; omega
    rw [e1, e0, w64 (x := -((u / 10 : Nat) : Int)) (by omega) (by omega)]
    by_cases h9 : u < 10
    · refine evT (by omega) ?_
      have e : (48 - (-(u : Int))) = 48 + (u : Int) := by omega
      rw [e, one_ch u h9]
      refine evB rfl ?_
      rw [one_num u h9]
      refine evT (by rw [ba_size]; simp) ?_
      rw [Lib.decDigits, dif_pos h9]
      exact evSome _
    · refine evF (by omega) ?_
      refine Ev.bind (ih (u / 10) (by omega) (by rw [Nat.pow_succ] at hu; omega) (by omega) (by omega)) ?_
      have e : (48 - (-((u % 10 : Nat) : Int))) = 48 + ((u % 10 : Nat) : Int) := by omega
      rw [e, one_ch _ (by omega)]
      refine evB rfl ?_
      rw [one_num (u % 10) (by omega)]
      have hl := dec_len (m + 1) (u / 10) (by omega) (by rw [Nat.pow_succ] at hu; omega)
      refine evT (by rw [ba_size, ba_size]; simp; omega) ?_
      rw [ba_app]
      have e3 : Lib.decDigits u = Lib.decDigits (u / 10) ++ [UInt8.ofNat (48 + u % 10)] := by rw [Lib.decDigits, dif_neg h9]
      rw [e3, ← List.cons_append]
      exact evSome _
theorem spec_fmt_ev (n : Int) (h : I64' n) : Ev (fun k => spec_FormatInt.f k n) (itob n) := by
  unfold I64' at h
  unfold itob Lib.itoa
  by_cases h0 : n < 0
  · rw [if_pos h0]
    have := fmt_neg 18 n.natAbs (by omega) (by omega) (by omega) (by omega)
    rwa [show -((n.natAbs : Nat) : Int) = n by omega] at this
  · rw [if_neg h0]
    refine Ev.step (fun k => by rw [spec_FormatInt.f]) ?_
    refine evF h0 ?_
    have := fmt_l0 18 n.toNat [] (by omega) (by simp) (by omega)
    rwa [show ((n.toNat : Nat) : Int) = n by omega, List.append_nil] at this
/-! fmtImpl -/
theorem impl_fmt (n : Int) (h : I64' n) : impl_FormatInt.f n = some (itob n) := by
  unfold impl_FormatInt.f
  exact if_pos h
/-! plBase -/
def tq (xs : List Int) (a b : Nat) : Int := xs.getD (a * 17 + b) 0
def pA (G : Nat → Nat → Int) (a b : Nat) : Nat → Int → Int
  | 0, x => x
  | k + 1, x => mx (pA G a b k x) (wrap64 (G (k + 1) b + G (a - (k + 1)) b))
def pB (G : Nat → Nat → Int) (a b : Nat) : Nat → Int → Int
  | 0, x => x
  | k + 1, x => mx (pB G a b k x) (wrap64 (G a (k + 1) + G a (b - (k + 1))))
def rowW (W : List (List Int)) (i : Nat) : List Int := W.getD i ([] : List Int)
def pW (W : List (List Int)) (a b : Nat) : Nat → Int → Int
  | 0, x => x
  | i + 1, x => if rd (rowW W i) 0 = (a : Int) ∧ rd (rowW W i) 1 = (b : Int) then mx (pW W a b i x) (rd (rowW W i) 2) else pW W a b i x
def pV (W : List (List Int)) (G : Nat → Nat → Int) (a b : Nat) : Int := pB G a b (b - 1) (pA G a b (a - 1) (pW W a b W.length 0))
def rowT (W : List (List Int)) (xs : List Int) (a : Nat) : Nat → List Int
  | 0 => xs
  | j + 1 => (rowT W xs a j).set (a * 17 + (j + 1)) (pV W (tq (rowT W xs a j)) a (j + 1))
def tabT (W : List (List Int)) (h : Nat) : Nat → List Int
  | 0 => List.replicate 289 0
  | i + 1 => rowT W (tabT W h i) (i + 1) h
theorem qset_eq {xs : List Int} {i : Nat} (h : i < xs.length) (v : Int) : (xs.set i v).getD i 0 = v := by
  rw [List.getD_eq_getElem?_getD, List.getElem?_set_self h]; rfl
theorem qset_ne {xs : List Int} {i j : Nat} (h : i ≠ j) (v : Int) : (xs.set i v).getD j 0 = xs.getD j 0 := by
  rw [List.getD_eq_getElem?_getD, List.getElem?_set_ne h, List.getD_eq_getElem?_getD]
theorem qset_self {xs : List Int} {i : Nat} : xs.set i (xs.getD i 0) = xs := by
  by_cases h : i < xs.length
  · rw [getD_eq xs i 0 h, List.set_getElem_self]
  · rw [List.set_eq_of_length_le (by omega)]
theorem rowT_len (W : List (List Int)) (xs : List Int) (a : Nat) : ∀ j, (rowT W xs a j).length = xs.length
  | 0 => rfl
  | j + 1 => by rw [rowT, List.length_set, rowT_len W xs a j]
theorem tabT_len (W : List (List Int)) (h : Nat) : ∀ i, (tabT W h i).length = 289
  | 0 => List.length_replicate ..
  | i + 1 => by rw [tabT, rowT_len, tabT_len W h i]
theorem rowT_other (W : List (List Int)) (xs : List Int) (a : Nat) : ∀ j, j < 17 → ∀ a' b', b' < 17 → ¬ (a' = a ∧ b' ≤ j ∧ 1 ≤ b') → tq (rowT W xs a j) a' b' = tq xs a' b'
  | 0, _, _, _, _, _ => rfl
  | j + 1, hj, a', b', hb, hne => by
    rw [rowT]
    have h1 : a * 17 + (j + 1) ≠ a' * 17 + b' := by omega
    exact (qset_ne h1 _).trans (rowT_other W xs a j (by omega) a' b' hb (by omega))
theorem tabT_zero (W : List (List Int)) (h : Nat) (hh : h < 17) : ∀ i a b, i < a → b < 17 → tq (tabT W h i) a b = 0
  | 0, a, b, _, _ => by
    show (List.replicate 289 (0 : Int)).getD (a * 17 + b) 0 = 0
    rw [List.getD_eq_getElem?_getD, List.getElem?_replicate]
    split <;> rfl
  | i + 1, a, b, hi, hb => by
    rw [tabT, rowT_other W _ _ h hh a b hb (by omega)]
    exact tabT_zero W h hh i a b (by omega) hb
/-! plImpl -/
theorem ipl_ws (W : List (List Int)) (xs : List Int) (a b : Nat) : ∀ i, impl_bestValues.ws W xs a b i = xs.set (a * 17 + b) (pW W a b i (tq xs a b))
  | 0 => by rw [impl_bestValues.ws, pW]; exact qset_self.symm
  | i + 1 => by
    rw [impl_bestValues.ws, pW, ipl_ws W xs a b i]
    show (if rd (rowW W i) 0 = (a : Int) ∧ rd (rowW W i) 1 = (b : Int) then _ else _) = _
    by_cases c : rd (rowW W i) 0 = (a : Int) ∧ rd (rowW W i) 1 = (b : Int)
    · rw [if_pos c, if_pos c, List.set_set]
      by_cases hl : a * 17 + b < xs.length
      · rw [qset_eq hl]; rfl
      · rw [List.set_eq_of_length_le (by omega), List.set_eq_of_length_le (by omega)]
    · rw [if_neg c, if_neg c]
theorem ipl_kA (xs : List Int) (a b : Nat) (v : Int) (hl : a * 17 + b < xs.length) (hb : b < 17) (h1 : 1 ≤ a) : ∀ j, j ≤ a - 1 → impl_bestValues.kA (xs.set (a * 17 + b) v) a b j = xs.set (a * 17 + b) (pA (tq xs) a b j v)
  | 0, _ => rfl
  | j + 1, hj => by
    rw [impl_bestValues.kA, ipl_kA xs a b v hl hb h1 j (by omega), List.set_set, pA]
    unfold impl_bestValues.g
    rw [qset_eq hl, qset_ne (by omega), qset_ne (by omega)]
    rfl
theorem ipl_kB (xs : List Int) (a b : Nat) (v : Int) (hl : a * 17 + b < xs.length) (hb : b < 17) (h1 : 1 ≤ b) : ∀ j, j ≤ b - 1 → impl_bestValues.kB (xs.set (a * 17 + b) v) a b j = xs.set (a * 17 + b) (pB (tq xs) a b j v)
  | 0, _ => rfl
  | j + 1, hj => by
    rw [impl_bestValues.kB, ipl_kB xs a b v hl hb h1 j (by omega), List.set_set, pB]
    unfold impl_bestValues.g
    rw [qset_eq hl, qset_ne (by omega), qset_ne (by omega)]
    rfl
theorem ipl_cell (W : List (List Int)) (xs : List Int) (a b : Nat) (hl : xs.length = 289) (ha : 1 ≤ a ∧ a < 17) (hb : 1 ≤ b ∧ b < 17) (hz : tq xs a b = 0) : impl_bestValues.cell W xs a b = xs.set (a * 17 + b) (pV W (tq xs) a b) := by
  unfold impl_bestValues.cell pV
  rw [ipl_ws, hz, ipl_kA xs a b _ (by omega) hb.2 ha.1 _ (Nat.le_refl _), ipl_kB xs a b _ (by omega) hb.2 hb.1 _ (Nat.le_refl _)]
theorem ipl_row (W : List (List Int)) (xs : List Int) (a h : Nat) (hl : xs.length = 289) (ha : 1 ≤ a ∧ a < 17) (hh : h < 17) (hz : ∀ b, b < 17 → tq xs a b = 0) : ∀ j, j ≤ h → impl_bestValues.row W xs a j = rowT W xs a j
  | 0, _ => rfl
  | j + 1, hj => by
    rw [impl_bestValues.row, rowT, ipl_row W xs a h hl ha hh hz j (by omega)]
    exact ipl_cell W _ a (j + 1) (by rw [rowT_len, hl]) ha (by omega) (by rw [rowT_other W xs a j (by omega) a (j + 1) (by omega) (by omega)]; exact hz _ (by omega))
theorem ipl_tab (W : List (List Int)) (h : Nat) (hh : h < 17) : ∀ i, i < 17 → impl_bestValues.tab W h i = tabT W h i
  | 0, _ => rfl
  | i + 1, hi => by
    rw [impl_bestValues.tab, tabT, ipl_tab W h hh i (by omega)]
    exact ipl_row W _ (i + 1) h (tabT_len W h i) (by omega) hh (fun b hb => tabT_zero W h hh i (i + 1) b (by omega) hb) h (Nat.le_refl _)
/-! plSpec -/
theorem ixP {a b : Nat} (ha : a ≤ 40) (hb : b ≤ 40) : wrap64 (wrap64 ((a : Int) * 17) + (b : Int)) = ((a * 17 + b : Nat) : Int) := by
  rw [w64 (x := (a : Int) * 17) (by omega) (by omega), w64 (by omega) (by omega)]
  omega
theorem ixP2 {a b k : Nat} (ha : a ≤ 40) (hb : b ≤ 40) (hk : k ≤ b) : wrap64 (wrap64 (wrap64 ((a : Int) * 17) + (b : Int)) - (k : Int)) = ((a * 17 + (b - k) : Nat) : Int) := by
  rw [ixP ha hb, w64 (by omega) (by omega)]
  omega
theorem rdtq (xs : List Int) (a b : Nat) : rd xs ((a * 17 + b : Nat) : Int) = tq xs a b := by
  unfold rd tq
  rw [Int.toNat_natCast]
theorem rdW (W : List (List Int)) (i : Nat) : rd_L1 W (i : Int) = rowW W i := by
  unfold rd_L1 rowW
  rw [Int.toNat_natCast]
def okP (W : List (List Int)) : Prop := W.length ≤ 6 ∧ ∀ i, i < W.length → (rowW W i).length = 3
theorem spl_l4 (W : List (List Int)) (w h a b : Nat) (xs : List Int) (hl : xs.length = 289) (ha : 1 ≤ a ∧ a < 17) (hb : 1 ≤ b ∧ b < 17) (x : Int) (R : List Int)
    (hR : Ev (fun k => spec_l16Table.l1 k w h W (xs.set (a * 17 + b) (pB (tq xs) a b (b - 1) x)) a ((b + 1 : Nat) : Int)) R) : ∀ d j, j + d = b - 1 → Ev (fun k => spec_l16Table.l4 k w h W xs a b (pB (tq xs) a b j x) ((j + 1 : Nat) : Int)) R := by
  intro d
  induction d with
  | zero =>
    intro j hj
    have hj : j = b - 1 := by omega
    subst hj
    refine Ev.step (fun k => by rw [spec_l16Table.l4]) ?_
    refine evF (by omega) ?_
    rw [ixP (by omega) (by omega)]
    refine evT (by omega) (evT (by rw [hl]; omega) ?_)
    rw [Int.toNat_natCast, w64s b (by omega)]
    exact hR
  | succ d ih =>
    intro j hj
    refine Ev.step (fun k => by rw [spec_l16Table.l4]) ?_
    refine evT (by omega) ?_
    rw [ixP (b := j + 1) (by omega) (by omega), ixP2 (k := j + 1) (by omega) (by omega) (by omega), rdtq, rdtq, w64s (j + 1) (by omega)]
    refine evT (by omega) (evT (by rw [hl]; omega) (evT (by omega) (evT (by rw [hl]; omega) ?_)))
    exact ih (j + 1) (by omega)
theorem spl_l3 (W : List (List Int)) (w h a b : Nat) (xs : List Int) (hl : xs.length = 289) (ha : 1 ≤ a ∧ a < 17) (hb : 1 ≤ b ∧ b < 17) (x : Int) (R : List Int)
    (hR : Ev (fun k => spec_l16Table.l4 k w h W xs a b (pA (tq xs) a b (a - 1) x) 1) R) : ∀ d j, j + d = a - 1 → Ev (fun k => spec_l16Table.l3 k w h W xs a b (pA (tq xs) a b j x) ((j + 1 : Nat) : Int)) R := by
  intro d
  induction d with
  | zero =>
    intro j hj
    have hj : j = a - 1 := by omega
    subst hj
    refine Ev.step (fun k => by rw [spec_l16Table.l3]) ?_
    exact evF (by omega) hR
  | succ d ih =>
    intro j hj
    refine Ev.step (fun k => by rw [spec_l16Table.l3]) ?_
    refine evT (by omega) ?_
    have e : wrap64 ((a : Int) - ((j + 1 : Nat) : Int)) = ((a - (j + 1) : Nat) : Int) := by rw [w64 (by omega) (by omega)]; omega
    rw [e, ixP (a := j + 1) (by omega) (by omega), ixP (a := a - (j + 1)) (by omega) (by omega), rdtq, rdtq, w64s (j + 1) (by omega)]
    refine evT (by omega) (evT (by rw [hl]; omega) (evT (by omega) (evT (by rw [hl]; omega) ?_)))
    exact ih (j + 1) (by omega)
theorem spl_l2 (W : List (List Int)) (hW : okP W) (w h a b : Nat) (xs : List Int) (R : List Int)
    (hR : Ev (fun k => spec_l16Table.l3 k w h W xs a b (pW W a b W.length 0) 1) R) : ∀ d i, i + d = W.length → Ev (fun k => spec_l16Table.l2 k w h W xs a b (pW W a b i 0) W (W.length : Int) (i : Int)) R := by
  intro d
  induction d with
  | zero =>
    intro i hi
    have hi : i = W.length := by omega
    subst hi
    refine Ev.step (fun k => by rw [spec_l16Table.l2]) ?_
    exact evF (by omega) hR
  | succ d ih =>
    intro i hi
    have h3 := hW.2 i (by omega)
    have h6 := hW.1
    have ih2 := ih (i + 1) (by omega)
    refine Ev.step (fun k => by rw [spec_l16Table.l2]) ?_
    rw [rdW, h3]
    refine evT (by omega) (evT (by omega) (evT (by omega) (evT (by decide) ?_)))
    rw [w64s i (by omega)]
    by_cases c0 : rd (rowW W i) 0 = (a : Int)
    · refine evT c0 (evT (by decide) ?_)
      by_cases c1 : rd (rowW W i) 1 = (b : Int)
      · refine evT c1 (evT (by decide) ?_)
        rw [pW, if_pos ⟨c0, c1⟩] at ih2
        exact ih2
      · refine evF c1 ?_
        rw [pW, if_neg (fun hh => c1 hh.2)] at ih2
        exact ih2
    · refine evF c0 ?_
      rw [pW, if_neg (fun hh => c0 hh.1)] at ih2
      exact ih2
theorem spl_l1 (W : List (List Int)) (hW : okP W) (w h a : Nat) (hh : h < 17) (ha : 1 ≤ a ∧ a < 17) (ys : List Int) (hl : ys.length = 289) (R : List Int)
    (hR : Ev (fun k => spec_l16Table.l0 k w h W (rowT W ys a h) ((a + 1 : Nat) : Int)) R) : ∀ d j, j + d = h → Ev (fun k => spec_l16Table.l1 k w h W (rowT W ys a j) a ((j + 1 : Nat) : Int)) R := by
  intro d
  induction d with
  | zero =>
    intro j hj
    have hj : j = h := by omega
    subst hj
    refine Ev.step (fun k => by rw [spec_l16Table.l1]) ?_
    refine evF (by omega) ?_
    rw [w64s a (by omega)]
    exact hR
  | succ d ih =>
    intro j hj
    refine Ev.step (fun k => by rw [spec_l16Table.l1]) ?_
    refine evT (by omega) ?_
    have hlen : (rowT W ys a j).length = 289 := by rw [rowT_len, hl]
    have e := ih (j + 1) (by omega)
    rw [rowT] at e
    have e4 := spl_l4 W w h a (j + 1) (rowT W ys a j) hlen ha (by omega) (pA (tq (rowT W ys a j)) a (j + 1) (a - 1) (pW W a (j + 1) W.length 0)) R e j 0 (by omega)
    have e3 := spl_l3 W w h a (j + 1) (rowT W ys a j) hlen ha (by omega) (pW W a (j + 1) W.length 0) R e4 (a - 1) 0 (by omega)
    exact spl_l2 W hW w h a (j + 1) (rowT W ys a j) R e3 W.length 0 (by omega)
theorem spl_l0 (W : List (List Int)) (hW : okP W) (w h : Nat) (hw : w < 17) (hh : h < 17) : ∀ d i, i + d = w → Ev (fun k => spec_l16Table.l0 k w h W (tabT W h i) ((i + 1 : Nat) : Int)) (tabT W h w) := by
  intro d
  induction d with
  | zero =>
    intro i hi
    have hi : i = w := by omega
    subst hi
    refine Ev.step (fun k => by rw [spec_l16Table.l0]) ?_
    exact evF (by omega) (evSome _)
  | succ d ih =>
    intro i hi
    refine Ev.step (fun k => by rw [spec_l16Table.l0]) ?_
    refine evT (by omega) ?_
    exact spl_l1 W hW w h (i + 1) hh (by omega) (tabT W h i) (tabT_len W h i) _ (ih (i + 1) (by omega)) h 0 (by omega)
theorem spl_tab (W : List (List Int)) (hW : okP W) (w h : Nat) (hw : w < 17) (hh : h < 17) : Ev (fun k => spec_l16Table.f k w h W) (tabT W h w) := by
  unfold spec_l16Table.f
  exact evT (by decide) (spl_l0 W hW w h hw hh w 0 (by omega))
/-! plFix -/
theorem pA_congr {G H : Nat → Nat → Int} {a b : Nat} (h : ∀ k, 1 ≤ k → k < a → G k b = H k b) (x : Int) : ∀ j, j ≤ a - 1 → pA G a b j x = pA H a b j x
  | 0, _ => rfl
  | j + 1, hj => by rw [pA, pA, pA_congr h x j (by omega), h (j + 1) (by omega) (by omega), h (a - (j + 1)) (by omega) (by omega)]
theorem pB_congr {G H : Nat → Nat → Int} {a b : Nat} (h : ∀ k, 1 ≤ k → k < b → G a k = H a k) (x : Int) : ∀ j, j ≤ b - 1 → pB G a b j x = pB H a b j x
  | 0, _ => rfl
  | j + 1, hj => by rw [pB, pB, pB_congr h x j (by omega), h (j + 1) (by omega) (by omega), h (b - (j + 1)) (by omega) (by omega)]
theorem pV_congr {W : List (List Int)} {G H : Nat → Nat → Int} {a b : Nat} (h1 : ∀ k, 1 ≤ k → k < a → G k b = H k b) (h2 : ∀ k, 1 ≤ k → k < b → G a k = H a k) : pV W G a b = pV W H a b := by
  unfold pV
  rw [pA_congr h1 _ _ (Nat.le_refl _), pB_congr h2 _ _ (Nat.le_refl _)]
def FixT (W : List (List Int)) (xs : List Int) (h i j : Nat) : Prop := xs.length = 289 ∧ ∀ a b, 1 ≤ a → a < 17 → 1 ≤ b → b ≤ h → (a < i ∨ (a = i ∧ b ≤ j)) → tq xs a b = pV W (tq xs) a b
theorem fix_row (W : List (List Int)) (xs : List Int) (h i : Nat) (hh : h < 17) (hi : 1 ≤ i ∧ i < 17) (hx : FixT W xs h i 0) : ∀ j, j ≤ h → FixT W (rowT W xs i j) h i j
  | 0, _ => hx
  | j + 1, hj => by
    obtain ⟨l1, d1⟩ := fix_row W xs h i hh hi hx j (by omega)
    rw [rowT]
    have c1 : tq ((rowT W xs i j).set (i * 17 + (j + 1)) (pV W (tq (rowT W xs i j)) i (j + 1))) i (j + 1) = pV W (tq (rowT W xs i j)) i (j + 1) := qset_eq (by omega) _
    have c2 : ∀ a' b', b' < 17 → ¬ (a' = i ∧ b' = j + 1) → tq ((rowT W xs i j).set (i * 17 + (j + 1)) (pV W (tq (rowT W xs i j)) i (j + 1))) a' b' = tq (rowT W xs i j) a' b' := fun a' b' hb' hne => qset_ne (by omega) _
    refine ⟨by rw [List.length_set, l1], fun a b p1 p2 p3 p4 hd => ?_⟩
    by_cases e : a = i ∧ b = j + 1
    · obtain ⟨rfl, rfl⟩ := e
      rw [c1]
      exact (pV_congr (fun k k1 k2 => c2 k _ (by omega) (by omega)) (fun k k1 k2 => c2 _ k (by omega) (by omega))).symm
    · rw [c2 a b (by omega) e, d1 a b p1 p2 p3 p4 (by omega)]
      exact (pV_congr (fun k k1 k2 => c2 k b (by omega) (by omega)) (fun k k1 k2 => c2 a k (by omega) (by omega))).symm
theorem fix_tab (W : List (List Int)) (h : Nat) (hh : h < 17) : ∀ i, i < 17 → FixT W (tabT W h i) h (i + 1) 0
  | 0, _ => ⟨List.length_replicate .., fun a b p1 p2 p3 p4 hd => by omega⟩
  | i + 1, hi => by
    have ih := fix_tab W h hh i (by omega)
    have r := fix_row W (tabT W h i) h (i + 1) hh (by omega) ih h (Nat.le_refl _)
    exact ⟨r.1, fun a b p1 p2 p3 p4 hd => r.2 a b p1 p2 p3 p4 (by omega)⟩
theorem mx_or (a b : Int) : mx a b = a ∨ mx a b = b := by unfold mx; split <;> simp
theorem pW_att (W : List (List Int)) (a b : Nat) : ∀ i, pW W a b i 0 = 0 ∨ ∃ j, j < i ∧ (rd (rowW W j) 0 = (a : Int) ∧ rd (rowW W j) 1 = (b : Int)) ∧ rd (rowW W j) 2 = pW W a b i 0
  | 0 => .inl rfl
  | i + 1 => by
    rw [pW]
    split
    · rename_i c
      rcases mx_or (pW W a b i 0) (rd (rowW W i) 2) with e | e
      · rw [e]
        rcases pW_att W a b i with h | ⟨j, hj, h⟩
        · exact .inl h
        · exact .inr ⟨j, by omega, h⟩
      · rw [e]; exact .inr ⟨i, by omega, c, rfl⟩
    · rcases pW_att W a b i with h | ⟨j, hj, h⟩
      · exact .inl h
      · exact .inr ⟨j, by omega, h⟩
theorem pA_att (G : Nat → Nat → Int) (a b : Nat) (x : Int) : ∀ j, pA G a b j x = x ∨ ∃ k, 1 ≤ k ∧ k ≤ j ∧ wrap64 (G k b + G (a - k) b) = pA G a b j x
  | 0 => .inl rfl
  | j + 1 => by
    rw [pA]
    rcases mx_or (pA G a b j x) (wrap64 (G (j + 1) b + G (a - (j + 1)) b)) with e | e
    · rw [e]
      rcases pA_att G a b x j with h | ⟨k, h1, h2, h3⟩
      · exact .inl h
      · exact .inr ⟨k, h1, by omega, h3⟩
    · rw [e]; exact .inr ⟨j + 1, by omega, by omega, rfl⟩
theorem pB_att (G : Nat → Nat → Int) (a b : Nat) (x : Int) : ∀ j, pB G a b j x = x ∨ ∃ k, 1 ≤ k ∧ k ≤ j ∧ wrap64 (G a k + G a (b - k)) = pB G a b j x
  | 0 => .inl rfl
  | j + 1 => by
    rw [pB]
    rcases mx_or (pB G a b j x) (wrap64 (G a (j + 1) + G a (b - (j + 1)))) with e | e
    · rw [e]
      rcases pB_att G a b x j with h | ⟨k, h1, h2, h3⟩
      · exact .inl h
      · exact .inr ⟨k, h1, by omega, h3⟩
    · rw [e]; exact .inr ⟨j + 1, by omega, by omega, rfl⟩
theorem pV_att (W : List (List Int)) (G : Nat → Nat → Int) (a b : Nat) (h0 : pV W G a b ≠ 0) : (∃ j, j < W.length ∧ (rd (rowW W j) 0 = (a : Int) ∧ rd (rowW W j) 1 = (b : Int)) ∧ rd (rowW W j) 2 = pV W G a b) ∨ (∃ k, 1 ≤ k ∧ k ≤ a - 1 ∧ wrap64 (G k b + G (a - k) b) = pV W G a b) ∨ ∃ k, 1 ≤ k ∧ k ≤ b - 1 ∧ wrap64 (G a k + G a (b - k)) = pV W G a b := by
  unfold pV at h0 ⊢
  rcases pB_att G a b (pA G a b (a - 1) (pW W a b W.length 0)) (b - 1) with h | h
  · rw [h] at h0 ⊢
    rcases pA_att G a b (pW W a b W.length 0) (a - 1) with h' | h'
    · rw [h'] at h0 ⊢
      rcases pW_att W a b W.length with h'' | h''
      · exact absurd h'' h0
      · exact .inl h''
    · exact .inr (.inl h')
  · exact .inr (.inr h)
theorem wI (a : Int) : I64' (wrap64 a) := by unfold I64' wrap64; omega
theorem mxI {a b : Int} (ha : I64' a) (hb : I64' b) : I64' (mx a b) := by unfold mx; split <;> assumption
theorem pA_I (G : Nat → Nat → Int) (a b : Nat) {x : Int} (hx : I64' x) : ∀ j, I64' (pA G a b j x)
  | 0 => hx
  | j + 1 => mxI (pA_I G a b hx j) (wI _)
theorem pB_I (G : Nat → Nat → Int) (a b : Nat) {x : Int} (hx : I64' x) : ∀ j, I64' (pB G a b j x)
  | 0 => hx
  | j + 1 => mxI (pB_I G a b hx j) (wI _)
/-! plPlan -/
theorem plApp (a b : ByteArray) : (a ++ b).size = a.size + b.size := ByteArray.size_append
theorem plItob (n : Int) (h : I64' n) : (itob n).size ≤ 20 := by unfold itob; rw [ba_size]; exact itoa_len n h
def joinP (c : UInt8) (k : Nat) (p q : ByteArray) : ByteArray := ((((⟨#[c]⟩ : ByteArray) ++ itob (k : Int)) ++ (⟨#[40]⟩ : ByteArray)) ++ p) ++ q ++ (⟨#[41]⟩ : ByteArray)
theorem joinP_size (c : UInt8) (k : Nat) (p q : ByteArray) (hk : k < 100) : (joinP c k p q).size ≤ 23 + p.size + q.size := by
  have h1 := plItob (k : Int) (by unfold I64'; omega)
  unfold joinP
  simp only [plApp, show (⟨#[c]⟩ : ByteArray).size = 1 from rfl, show (⟨#[40]⟩ : ByteArray).size = 1 from rfl, show (⟨#[41]⟩ : ByteArray).size = 1 from rfl]
  omega
/-- What a plan of the plate a, b comes to, in both programs. -/
def PlanAt (T : List Int) (W : List (List Int)) (a b : Nat) (r : ByteArray) : Prop := Ev (fun k => spec_l16Plan.f k (a : Int) (b : Int) W T) r ∧ (∃ k0, ∀ k, k0 ≤ k → impl_BestPlan.plan T W k a b = some r) ∧ r.size + 25 ≤ 30 * (a * b)
theorem ipl_join {c : UInt8} {k : Nat} {p q : ByteArray} (hk : k < 100) (hp : p.size ≤ 10000) (hq : q.size ≤ 10000) : impl_BestPlan.join c k (some p) (some q) = some (joinP c k p q) := by
  have h1 := plItob (k : Int) (by unfold I64'; omega)
  unfold impl_BestPlan.join
  rw [Option.bind_some, Option.bind_some, impl_fmt _ (by unfold I64'; omega), Option.bind_some, if_pos (by omega)]
  rfl
theorem ab_le {a b : Nat} (ha : a ≤ 16) (hb : b ≤ 16) : a * b ≤ 256 := Nat.mul_le_mul ha hb
section
variable {T : List Int} {W : List (List Int)} {a b : Nat}
theorem pl_l2 (hT : T.length = 289) (ha : 1 ≤ a ∧ a ≤ 16) (hb : 1 ≤ b ∧ b ≤ 16) (v : Int) (IH : ∀ k, 1 ≤ k → k < b → ∃ r, PlanAt T W a k r) : ∀ d, d ≤ b - 1 → (∃ k, b - d ≤ k ∧ k ≤ b - 1 ∧ wrap64 (tq T a k + tq T a (b - k)) = v) →
    ∃ r, Ev (fun k => spec_l16Plan.l2 k a b W T v ((b - d : Nat) : Int)) r ∧ (∃ k0, ∀ k, k0 ≤ k → impl_BestPlan.lB (impl_BestPlan.plan T W k) T a b v d = some r) ∧ r.size + 25 ≤ 30 * (a * b)
  | 0, _, hk => by obtain ⟨k, h1, h2, _⟩ := hk; omega
  | d + 1, hd, hk => by
    obtain ⟨l, hl⟩ : ∃ l, l = b - (d + 1) := ⟨_, rfl⟩
    have hl1 : 1 ≤ l ∧ l < b := by omega
    have hbl : b - (d + 1) = l := hl.symm
    have q1 := ab_le (a := a) (b := l) (by omega) (by omega)
    have q2 := ab_le (a := a) (b := b - l) (by omega) (by omega)
    have em : a * l + a * (b - l) = a * b := by rw [← Nat.mul_add]; congr 1; omega
    by_cases c : wrap64 (tq T a l + tq T a (b - l)) = v
    · obtain ⟨p, p1, ⟨k1, p2⟩, p3⟩ := IH l hl1.1 hl1.2
      obtain ⟨q, r1, ⟨k2, r2⟩, r3⟩ := IH (b - l) (by omega) (by omega)
      have hi := plItob (l : Int) (by unfold I64'; omega)
      refine ⟨joinP 104 l p q, ?_, ⟨k1 + k2, fun k hk => ?_⟩, ?_⟩
      · rw [hbl]
        refine Ev.step (fun k => by rw [spec_l16Plan.l2]) ?_
        rw [ixP (a := a) (b := l) (by omega) (by omega), ixP2 (a := a) (b := b) (k := l) (by omega) (by omega) (by omega), rdtq, rdtq]
        refine evT (by omega) (evT (by omega) (evT (by omega) (evT (by omega) (evT (by omega) (evT c ?_)))))
        refine Ev.bind (spec_fmt_ev (l : Int) (by unfold I64'; omega)) (evT (by omega) (evT (by rw [plApp, show (⟨#[104]⟩ : ByteArray).size = 1 from rfl]; omega) ?_))
        refine Ev.bind p1 (evT (by simp only [plApp, show (⟨#[104]⟩ : ByteArray).size = 1 from rfl, show (⟨#[40]⟩ : ByteArray).size = 1 from rfl]; omega) ?_)
        rw [show wrap64 ((b : Int) - (l : Int)) = ((b - l : Nat) : Int) by rw [w64 (by omega) (by omega)]; omega]
        refine Ev.bind r1 (evT (by simp only [plApp, show (⟨#[104]⟩ : ByteArray).size = 1 from rfl, show (⟨#[40]⟩ : ByteArray).size = 1 from rfl]; omega) (evT (by simp only [plApp, show (⟨#[104]⟩ : ByteArray).size = 1 from rfl, show (⟨#[40]⟩ : ByteArray).size = 1 from rfl]; omega) ?_))
        exact evSome _
      · rw [impl_BestPlan.lB, hbl]
        have e : wrap64 (impl_BestPlan.g T a l + impl_BestPlan.g T a (b - l)) = v := c
        rw [if_pos e, p2 k (by omega), r2 k (by omega)]
        exact ipl_join (by omega) (by omega) (by omega)
      · have := joinP_size 104 l p q (by omega)
        omega
    · obtain ⟨r, e1, ⟨k0, e2⟩, e3⟩ := pl_l2 hT ha hb v IH d (by omega) (by
        obtain ⟨k, h1, h2, h3⟩ := hk
        refine ⟨k, ?_, h2, h3⟩
        rcases Nat.eq_or_lt_of_le h1 with h | h
        · exact absurd (by rw [← hl] at h; rw [h]; exact h3) c
        · omega)
      refine ⟨r, ?_, ⟨k0, fun k hk => ?_⟩, e3⟩
      · rw [hbl]
        refine Ev.step (fun k => by rw [spec_l16Plan.l2]) ?_
        rw [ixP (a := a) (b := l) (by omega) (by omega), ixP2 (a := a) (b := b) (k := l) (by omega) (by omega) (by omega), rdtq, rdtq]
        refine evT (by omega) (evT (by omega) (evT (by omega) (evT (by omega) (evT (by omega) (evF c ?_)))))
        rw [w64s l (by omega), show l + 1 = b - d by omega]
        exact e1
      · rw [impl_BestPlan.lB, hbl]
        rw [if_neg (show ¬ wrap64 (impl_BestPlan.g T a l + impl_BestPlan.g T a (b - l)) = v from c)]
        exact e2 k hk
theorem pl_l1 (hT : T.length = 289) (ha : 1 ≤ a ∧ a ≤ 16) (hb : 1 ≤ b ∧ b ≤ 16) (v : Int) (IH1 : ∀ k, 1 ≤ k → k < a → ∃ r, PlanAt T W k b r) (IH : ∀ k, 1 ≤ k → k < b → ∃ r, PlanAt T W a k r) : ∀ d, d ≤ a - 1 → ((∃ k, a - d ≤ k ∧ k ≤ a - 1 ∧ wrap64 (tq T k b + tq T (a - k) b) = v) ∨ ∃ k, 1 ≤ k ∧ k ≤ b - 1 ∧ wrap64 (tq T a k + tq T a (b - k)) = v) →
    ∃ r, Ev (fun k => spec_l16Plan.l1 k a b W T v ((a - d : Nat) : Int)) r ∧ (∃ k0, ∀ k, k0 ≤ k → impl_BestPlan.lA (impl_BestPlan.plan T W k) T a b v d = some r) ∧ r.size + 25 ≤ 30 * (a * b)
  | 0, _, hk => by
    have hk2 : ∃ k, b - (b - 1) ≤ k ∧ k ≤ b - 1 ∧ wrap64 (tq T a k + tq T a (b - k)) = v := by
      rcases hk with ⟨k, h1, h2, _⟩ | ⟨k, h1, h2, h3⟩
      · omega
      · exact ⟨k, by omega, h2, h3⟩
    obtain ⟨r, e1, ⟨k0, e2⟩, e3⟩ := pl_l2 hT ha hb v IH (b - 1) (Nat.le_refl _) hk2
    refine ⟨r, ?_, ⟨k0, fun k hk => ?_⟩, e3⟩
    · refine Ev.step (fun k => by rw [spec_l16Plan.l1]) ?_
      refine evF (by omega) ?_
      rw [show b - (b - 1) = 1 by omega] at e1
      exact e1
    · rw [impl_BestPlan.lA]; exact e2 k hk
  | d + 1, hd, hk => by
    obtain ⟨l, hl⟩ : ∃ l, l = a - (d + 1) := ⟨_, rfl⟩
    have hl1 : 1 ≤ l ∧ l < a := by clear hk; omega
    have hda : d ≤ a - 1 := by clear hk; omega
    have hal : a - (d + 1) = l := hl.symm
    have q1 := ab_le (a := l) (b := b) (by omega) (by omega)
    have q2 := ab_le (a := a - l) (b := b) (by omega) (by omega)
    have em : l * b + (a - l) * b = a * b := by rw [← Nat.add_mul]; congr 1; omega
    have ea : wrap64 ((a : Int) - (l : Int)) = ((a - l : Nat) : Int) := by rw [w64 (by omega) (by omega)]; omega
    by_cases c : wrap64 (tq T l b + tq T (a - l) b) = v
    · obtain ⟨p, p1, ⟨k1, p2⟩, p3⟩ := IH1 l hl1.1 hl1.2
      obtain ⟨q, r1, ⟨k2, r2⟩, r3⟩ := IH1 (a - l) (by omega) (by omega)
      have hi := plItob (l : Int) (by unfold I64'; omega)
      refine ⟨joinP 118 l p q, ?_, ⟨k1 + k2, fun k hk => ?_⟩, ?_⟩
      · rw [hal]
        refine Ev.step (fun k => by rw [spec_l16Plan.l1]) ?_
        rw [ea, ixP (a := l) (b := b) (by omega) (by omega), ixP (a := a - l) (b := b) (by omega) (by omega), rdtq, rdtq]
        refine evT (by omega) (evT (by omega) (evT (by omega) (evT (by omega) (evT (by omega) (evT c ?_)))))
        refine Ev.bind (spec_fmt_ev (l : Int) (by unfold I64'; omega)) (evT (by omega) (evT (by rw [plApp, show (⟨#[118]⟩ : ByteArray).size = 1 from rfl]; omega) ?_))
        refine Ev.bind p1 (evT (by simp only [plApp, show (⟨#[118]⟩ : ByteArray).size = 1 from rfl, show (⟨#[40]⟩ : ByteArray).size = 1 from rfl]; omega) ?_)
        refine Ev.bind r1 (evT (by simp only [plApp, show (⟨#[118]⟩ : ByteArray).size = 1 from rfl, show (⟨#[40]⟩ : ByteArray).size = 1 from rfl]; omega) (evT (by simp only [plApp, show (⟨#[118]⟩ : ByteArray).size = 1 from rfl, show (⟨#[40]⟩ : ByteArray).size = 1 from rfl]; omega) ?_))
        exact evSome _
      · rw [impl_BestPlan.lA, hal]
        have e : wrap64 (impl_BestPlan.g T l b + impl_BestPlan.g T (a - l) b) = v := c
        rw [if_pos e, p2 k (by omega), r2 k (by omega)]
        exact ipl_join (by omega) (by omega) (by omega)
      · have := joinP_size 118 l p q (by omega)
        omega
    · obtain ⟨r, e1, ⟨k0, e2⟩, e3⟩ := pl_l1 hT ha hb v IH1 IH d hda (by
        rcases hk with ⟨k, h1, h2, h3⟩ | h
        · refine .inl ⟨k, ?_, h2, h3⟩
          rcases Nat.eq_or_lt_of_le h1 with h | h
          · exact absurd (by rw [← hl] at h; rw [h]; exact h3) c
          · omega
        · exact .inr h)
      refine ⟨r, ?_, ⟨k0, fun k hk => ?_⟩, e3⟩
      · rw [hal]
        refine Ev.step (fun k => by rw [spec_l16Plan.l1]) ?_
        rw [ea, ixP (a := l) (b := b) (by omega) (by omega), ixP (a := a - l) (b := b) (by omega) (by omega), rdtq, rdtq]
        refine evT (by omega) (evT (by omega) (evT (by omega) (evT (by omega) (evT (by omega) (evF c ?_)))))
        rw [w64s l (by omega), show l + 1 = a - d by omega]
        exact e1
      · rw [impl_BestPlan.lA, hal]
        rw [if_neg (show ¬ wrap64 (impl_BestPlan.g T l b + impl_BestPlan.g T (a - l) b) = v from c)]
        exact e2 k hk
end
/-! plTop -/
section
variable {T : List Int} {W : List (List Int)} {a b : Nat}
theorem pl_l0 (hW : okP W) (hT : T.length = 289) (ha : 1 ≤ a ∧ a ≤ 16) (hb : 1 ≤ b ∧ b ≤ 16) (v : Int) (IH1 : ∀ k, 1 ≤ k → k < a → ∃ r, PlanAt T W k b r) (IH : ∀ k, 1 ≤ k → k < b → ∃ r, PlanAt T W a k r) : ∀ d, d ≤ W.length → ((∃ j, W.length - d ≤ j ∧ j < W.length ∧ (rd (rowW W j) 0 = (a : Int) ∧ rd (rowW W j) 1 = (b : Int)) ∧ rd (rowW W j) 2 = v) ∨ (∃ k, 1 ≤ k ∧ k ≤ a - 1 ∧ wrap64 (tq T k b + tq T (a - k) b) = v) ∨ ∃ k, 1 ≤ k ∧ k ≤ b - 1 ∧ wrap64 (tq T a k + tq T a (b - k)) = v) →
    ∃ r, Ev (fun k => spec_l16Plan.l0 k a b W T v W (W.length : Int) ((W.length - d : Nat) : Int)) r ∧ (∃ k0, ∀ k, k0 ≤ k → impl_BestPlan.lW (impl_BestPlan.plan T W k) T W a b v d = some r) ∧ r.size + 25 ≤ 30 * (a * b)
  | 0, _, hk => by
    have hk2 : (∃ k, a - (a - 1) ≤ k ∧ k ≤ a - 1 ∧ wrap64 (tq T k b + tq T (a - k) b) = v) ∨ ∃ k, 1 ≤ k ∧ k ≤ b - 1 ∧ wrap64 (tq T a k + tq T a (b - k)) = v := by
      rcases hk with ⟨k, h1, h2, _⟩ | ⟨k, h1, h2, h3⟩ | h
      · omega
      · exact .inl ⟨k, by omega, h2, h3⟩
      · exact .inr h
    obtain ⟨r, e1, ⟨k0, e2⟩, e3⟩ := pl_l1 hT ha hb v IH1 IH (a - 1) (Nat.le_refl _) hk2
    refine ⟨r, ?_, ⟨k0, fun k hk => ?_⟩, e3⟩
    · refine Ev.step (fun k => by rw [spec_l16Plan.l0]) ?_
      refine evF (by omega) ?_
      rw [show a - (a - 1) = 1 by omega] at e1
      exact e1
    · rw [impl_BestPlan.lW]; exact e2 k hk
  | d + 1, hd, hk => by
    obtain ⟨i, hi⟩ : ∃ i, i = W.length - (d + 1) := ⟨_, rfl⟩
    have hil : i < W.length := by omega
    have hal : W.length - (d + 1) = i := hi.symm
    have h3 := hW.2 i hil
    have h6 := hW.1
    have q1 : 1 ≤ a * b := Nat.mul_pos ha.1 hb.1
    by_cases c : (rd (rowW W i) 0 = (a : Int) ∧ rd (rowW W i) 1 = (b : Int)) ∧ rd (rowW W i) 2 = v
    · refine ⟨(⟨#[97, 98, 99, 100, 101, 102]⟩ : ByteArray).extract i (i + 1), ?_, ⟨0, fun k hk => ?_⟩, ?_⟩
      · rw [hal]
        refine Ev.step (fun k => by rw [spec_l16Plan.l0]) ?_
        rw [rdW, h3, w64s i (by omega), Int.toNat_natCast, Int.toNat_natCast]
        exact evT (by omega) (evT (by omega) (evT (by omega) (evT (by decide) (evT c.1.1 (evT (by decide) (evT c.1.2 (evT (by decide) (evT c.2 (evT (by omega) (evT (by omega) (evSome _)))))))))))
      · rw [impl_BestPlan.lW, hal]
        rw [if_pos (show (rd (impl_bestValues.wrow W i) 0 = (a : Int) ∧ rd (impl_bestValues.wrow W i) 1 = (b : Int)) ∧ rd (impl_bestValues.wrow W i) 2 = v from c), if_pos (by omega)]
      · rw [ByteArray.size_extract, show (⟨#[97, 98, 99, 100, 101, 102]⟩ : ByteArray).size = 6 from rfl]
        omega
    · obtain ⟨r, e1, ⟨k0, e2⟩, e3⟩ := pl_l0 hW hT ha hb v IH1 IH d (by omega) (by
        rcases hk with ⟨k, h1, h2, h3⟩ | h
        · refine .inl ⟨k, ?_, h2, h3⟩
          rcases Nat.eq_or_lt_of_le h1 with h | h
          · exact absurd (by rw [← hi] at h; rw [h]; exact h3) c
          · omega
        · exact .inr h)
      refine ⟨r, ?_, ⟨k0, fun k hk => ?_⟩, e3⟩
      · rw [hal]
        rw [show W.length - d = i + 1 by omega] at e1
        refine Ev.step (fun k => by rw [spec_l16Plan.l0]) ?_
        rw [rdW, h3, w64s i (by omega)]
        refine evT (by omega) (evT (by omega) (evT (by omega) (evT (by decide) ?_)))
        by_cases c0 : rd (rowW W i) 0 = (a : Int)
        · refine evT c0 (evT (by decide) ?_)
          by_cases c1 : rd (rowW W i) 1 = (b : Int)
          · refine evT c1 (evT (by decide) ?_)
            exact evF (fun h => c ⟨⟨c0, c1⟩, h⟩) e1
          · exact evF c1 e1
        · exact evF c0 e1
      · rw [impl_BestPlan.lW, hal]
        rw [if_neg (show ¬ ((rd (impl_bestValues.wrow W i) 0 = (a : Int) ∧ rd (impl_bestValues.wrow W i) 1 = (b : Int)) ∧ rd (impl_bestValues.wrow W i) 2 = v) from c)]
        exact e2 k hk
end
theorem pl_all (W : List (List Int)) (hW : okP W) (w h : Nat) (hw : w < 17) (hh : h < 17) : ∀ n a b, a + b ≤ n → 1 ≤ a → a ≤ w → 1 ≤ b → b ≤ h → ∃ r, PlanAt (tabT W h w) W a b r := by
  intro n
  induction n with
  | zero => intro a b h0 h1 _ _ _; omega
  | succ n ih =>
    intro a b hn ha hw' hb hh'
    have hT := tabT_len W h w
    have hF := (fix_tab W h hh w hw).2 a b ha (by omega) hb hh' (by omega)
    have q1 : 1 ≤ a * b := Nat.mul_pos ha hb
    have IH1 : ∀ k, 1 ≤ k → k < a → ∃ r, PlanAt (tabT W h w) W k b r := fun k k1 k2 => ih k b (by omega) k1 (by omega) hb hh'
    have IH2 : ∀ k, 1 ≤ k → k < b → ∃ r, PlanAt (tabT W h w) W a k r := fun k k1 k2 => ih a k (by omega) ha hw' k1 (by omega)
    generalize tabT W h w = T at *
    by_cases c : tq T a b = 0
    · refine ⟨⟨#[46]⟩, ?_, ⟨1, fun k hk => ?_⟩, ?_⟩
      · refine Ev.step (fun k => by rw [spec_l16Plan.f]) ?_
        rw [ixP (a := a) (b := b) (by omega) (by omega), rdtq]
        exact evT (by omega) (evT (by rw [hT]; omega) (evT c (evSome _)))
      · obtain ⟨m, rfl⟩ : ∃ m, k = m + 1 := ⟨k - 1, by omega⟩
        rw [impl_BestPlan.plan]
        exact if_pos c
      · rw [show (⟨#[46]⟩ : ByteArray).size = 1 from rfl]; omega
    · have hA : (∃ j, W.length - W.length ≤ j ∧ j < W.length ∧ (rd (rowW W j) 0 = (a : Int) ∧ rd (rowW W j) 1 = (b : Int)) ∧ rd (rowW W j) 2 = tq T a b) ∨ (∃ k, 1 ≤ k ∧ k ≤ a - 1 ∧ wrap64 (tq T k b + tq T (a - k) b) = tq T a b) ∨ ∃ k, 1 ≤ k ∧ k ≤ b - 1 ∧ wrap64 (tq T a k + tq T a (b - k)) = tq T a b := by
        rw [hF] at c
        have := pV_att W (tq T) a b c
        rw [← hF] at this
        rcases this with ⟨j, j1, j2⟩ | h
        · exact .inl ⟨j, by omega, j1, j2⟩
        · exact .inr h
      obtain ⟨r, e1, ⟨k0, e2⟩, e3⟩ := pl_l0 hW hT ⟨ha, by omega⟩ ⟨hb, by omega⟩ (tq T a b) IH1 IH2 W.length (Nat.le_refl _) hA
      refine ⟨r, ?_, ⟨k0 + 1, fun k hk => ?_⟩, e3⟩
      · refine Ev.step (fun k => by rw [spec_l16Plan.f]) ?_
        rw [ixP (a := a) (b := b) (by omega) (by omega), rdtq]
        rw [Nat.sub_self] at e1
        exact evT (by omega) (evT (by rw [hT]; omega) (evF c e1))
      · obtain ⟨m, rfl⟩ : ∃ m, k = m + 1 := ⟨k - 1, by omega⟩
        rw [impl_BestPlan.plan]
        exact (if_neg c).trans (e2 m (by omega))
theorem rowW_get {W : List (List Int)} {i : Nat} (h : i < W.length) : rowW W i = W[i] := getD_eq W i [] h
theorem spl_wl (W : List (List Int)) (h6 : W.length ≤ 6) : ∀ d i, i + d = W.length → Ev (fun k => spec_WaresOk.l0 k W (W.length : Int) (i : Int)) ((W.drop i).all impl_WaresOk.row) := by
  intro d
  induction d with
  | zero =>
    intro i hi
    refine Ev.step (fun k => by rw [spec_WaresOk.l0]) ?_
    rw [List.drop_eq_nil_of_le (by omega)]
    exact evF (by omega) (evSome _)
  | succ d ih =>
    intro i hi
    refine Ev.step (fun k => by rw [spec_WaresOk.l0]) ?_
    rw [rdW, rowW_get (by omega : i < W.length), w64s i (by omega), List.drop_eq_getElem_cons (by omega : i < W.length), List.all_cons]
    have ih2 := ih (i + 1) (by omega)
    generalize W[i] = r at *
    refine evT (by omega) (evT (by omega) (evT (by omega) ?_))
    unfold impl_WaresOk.row
    by_cases c : r.length = 3
    · refine evT (by omega) (evT (by omega) ?_)
      refine evB (l01In_eq _ _ _) ?_
      by_cases c0 : 1 ≤ rd r 0 ∧ rd r 0 ≤ 16
      · refine evT (decide_eq_true c0) (evT (by omega) ?_)
        refine evB (l01In_eq _ _ _) ?_
        by_cases c1 : 1 ≤ rd r 1 ∧ rd r 1 ≤ 16
        · refine evT (decide_eq_true c1) (evT (by omega) ?_)
          refine evB (l01In_eq _ _ _) ?_
          by_cases c2 : 0 ≤ rd r 2 ∧ rd r 2 ≤ 1000
          · refine evT (decide_eq_true c2) ?_
            rw [decide_eq_true c, decide_eq_true c0.1, decide_eq_true c0.2, decide_eq_true c1.1, decide_eq_true c1.2, decide_eq_true c2.1, decide_eq_true c2.2]
            exact ih2
          · refine evF (by simpa using c2) ?_
            have : (decide (0 ≤ rd r 2) && decide (rd r 2 ≤ 1000)) = false := by rw [← Bool.decide_and]; exact decide_eq_false c2
            rw [this, Bool.and_false, Bool.and_false, Bool.and_false, Bool.false_and]
            exact evSome _
        · refine evF (by simpa using c1) ?_
          have : (decide (1 ≤ rd r 1) && decide (rd r 1 ≤ 16)) = false := by rw [← Bool.decide_and]; exact decide_eq_false c1
          rw [this, Bool.false_and, Bool.and_false, Bool.and_false, Bool.false_and]
          exact evSome _
      · refine evF (by simpa using c0) ?_
        have : (decide (1 ≤ rd r 0) && decide (rd r 0 ≤ 16)) = false := by rw [← Bool.decide_and]; exact decide_eq_false c0
        rw [this, Bool.false_and, Bool.and_false, Bool.false_and]
        exact evSome _
    · refine evF (by omega) ?_
      rw [decide_eq_false c, Bool.false_and, Bool.false_and]
      exact evSome _
def waresB (W : List (List Int)) : Bool := decide (W.length ≤ 6) && W.all impl_WaresOk.row
theorem spl_wares (W : List (List Int)) : Ev (fun k => spec_WaresOk.f k W) (waresB W) := by
  unfold spec_WaresOk.f waresB
  by_cases c : W.length ≤ 6
  · rw [decide_eq_true c, Bool.true_and]
    exact evF (by omega) (spl_wl W c W.length 0 (by omega))
  · rw [decide_eq_false c, Bool.false_and]
    exact evT (by omega) (evSome _)
theorem ipl_in (a b c : Int) : impl_within.f a b c = some (decide (b ≤ a ∧ a ≤ c)) := by
  rw [impl_WaresOk.wi, Bool.decide_and]
def plateB (a0 a1 : Int) (W : List (List Int)) : Bool := if 1 ≤ a0 ∧ a0 ≤ 16 then if 1 ≤ a1 ∧ a1 ≤ 16 then waresB W else false else false
theorem spl_ok (a0 a1 : Int) (W : List (List Int)) : Ev (fun k => spec_l16Ok.f k a0 a1 W) (plateB a0 a1 W) := by
  unfold spec_l16Ok.f plateB
  refine evB (l01In_eq _ _ _) ?_
  by_cases c0 : 1 ≤ a0 ∧ a0 ≤ 16
  · rw [if_pos c0]
    refine evT (decide_eq_true c0) (evB (l01In_eq _ _ _) ?_)
    by_cases c1 : 1 ≤ a1 ∧ a1 ≤ 16
    · rw [if_pos c1]
      exact evT (decide_eq_true c1) (Ev.bind (spl_wares W) (evSome _))
    · rw [if_neg c1]
      exact evF (by simpa using c1) (evSome _)
  · rw [if_neg c0]
    exact evF (by simpa using c0) (evSome _)
theorem ipl_ok (a0 a1 : Int) (W : List (List Int)) : impl_isPlate.f a0 a1 W = some (plateB a0 a1 W) := by
  unfold impl_isPlate.f plateB
  rw [ipl_in, ipl_in, Option.bind_some, Option.bind_some]
  by_cases c0 : 1 ≤ a0 ∧ a0 ≤ 16
  · rw [if_pos c0, if_pos (decide_eq_true c0)]
    by_cases c1 : 1 ≤ a1 ∧ a1 ≤ 16
    · rw [if_pos c1, if_pos (decide_eq_true c1)]
      rfl
    · rw [if_neg c1, if_neg (by simpa using c1)]
  · rw [if_neg c0, if_neg (by simpa using c0)]
theorem plate_t {a0 a1 : Int} {W : List (List Int)} (h : plateB a0 a1 W = true) : (1 ≤ a0 ∧ a0 ≤ 16) ∧ (1 ≤ a1 ∧ a1 ≤ 16) ∧ W.length ≤ 6 ∧ ∀ x ∈ W, impl_WaresOk.row x = true := by
  unfold plateB waresB at h
  by_cases c0 : 1 ≤ a0 ∧ a0 ≤ 16
  · rw [if_pos c0] at h
    by_cases c1 : 1 ≤ a1 ∧ a1 ≤ 16
    · rw [if_pos c1, Bool.and_eq_true, List.all_eq_true] at h
      exact ⟨c0, c1, of_decide_eq_true h.1, h.2⟩
    · rw [if_neg c1] at h; cases h
  · rw [if_neg c0] at h; cases h
theorem row_t {r : List Int} (h : impl_WaresOk.row r = true) : r.length = 3 ∧ 0 ≤ rd r 2 ∧ rd r 2 ≤ 1000 := by
  unfold impl_WaresOk.row at h
  simp only [Bool.and_eq_true] at h
  exact ⟨of_decide_eq_true h.1, of_decide_eq_true h.2.2.2.1, of_decide_eq_true h.2.2.2.2⟩
theorem pW_I (W : List (List Int)) (hW : ∀ i, i < W.length → 0 ≤ rd (rowW W i) 2 ∧ rd (rowW W i) 2 ≤ 1000) (a b : Nat) : ∀ i, i ≤ W.length → I64' (pW W a b i 0)
  | 0, _ => by unfold I64' pW; omega
  | i + 1, h => by
    have h1 := pW_I W hW a b i (by omega)
    have h2 := hW i (by omega)
    rw [pW]
    split
    · exact mxI h1 (by unfold I64'; omega)
    · exact h1
theorem pl_line (a0 a1 : Int) (W : List (List Int)) : ∃ r, Ev (fun k => spec_PlanLine.f k a0 a1 W) r ∧ Ev (fun k => impl_PlanLine.f k a0 a1 W) r := by
  unfold spec_PlanLine.f impl_PlanLine.f spec_BestValue.f spec_BestPlan.f impl_BestValue.f impl_BestPlan.f
  have hs := spl_ok a0 a1 W
  rw [ipl_ok a0 a1 W]
  simp only [Option.bind_some]
  cases hP : plateB a0 a1 W with
  | false =>
    rw [hP] at hs
    refine ⟨⟨#[110, 111, 110, 101]⟩, ?_, ?_⟩
    · exact Ev.bind (Ev.bind hs (evF (by decide) (evSome (-1)))) (evT (by decide) (evSome _))
    · simp only [Bool.false_eq_true, if_false, Option.bind_some]
      exact evT (by decide) (evSome _)
  | true =>
    rw [hP] at hs
    obtain ⟨c0, c1, h6, hr⟩ := plate_t hP
    obtain ⟨w, rfl⟩ : ∃ w : Nat, a0 = (w : Int) := ⟨a0.toNat, by omega⟩
    obtain ⟨h, rfl⟩ : ∃ h : Nat, a1 = (h : Int) := ⟨a1.toNat, by omega⟩
    have hw : 1 ≤ w ∧ w < 17 := by omega
    have hh : 1 ≤ h ∧ h < 17 := by omega
    have hR : ∀ i, i < W.length → impl_WaresOk.row (rowW W i) = true := fun i hi => by rw [rowW_get hi]; exact hr _ (List.getElem_mem hi)
    have hW : okP W := ⟨h6, fun i hi => (row_t (hR i hi)).1⟩
    have hV := fun i hi => (row_t (hR i hi)).2
    have sT := spl_tab W hW w h hw.2 hh.2
    have iT : impl_bestValues.f (w : Int) (h : Int) W = some (tabT W h w) := by
      unfold impl_bestValues.f
      rw [if_pos, Int.toNat_natCast, Int.toNat_natCast, ipl_tab W h hh.2 w hw.2]
      refine ⟨⟨⟨by omega, by omega⟩, by omega, by omega⟩, ?_⟩
      unfold impl_bestValues.okW
      rw [Bool.and_eq_true, List.all_eq_true]
      exact ⟨fun x hx => decide_eq_true (row_t (hr x hx)).1, decide_eq_true (by omega)⟩
    have hT := tabT_len W h w
    have hF := (fix_tab W h hh.2 w hw.2).2 w h hw.1 hw.2 hh.1 (Nat.le_refl _) (by omega)
    have hI : I64' (tq (tabT W h w) w h) := by
      rw [hF]
      unfold pV
      exact pB_I _ _ _ (pA_I _ _ _ (pW_I W hV w h W.length (Nat.le_refl _)) _) _
    obtain ⟨p, p1, ⟨k0, p2⟩, p3⟩ := pl_all W hW w h hw.2 hh.2 (w + h) w h (Nat.le_refl _) hw.1 (Nat.le_refl _) hh.1 (Nat.le_refl _)
    have q := ab_le (a := w) (b := h) (by omega) (by omega)
    simp only [iT, Option.bind_some, if_true, Int.toNat_natCast]
    generalize tabT W h w = T at *
    have sV : Ev (fun k => (spec_l16Ok.f k (w : Int) (h : Int) W).bind fun t125 => (if t125 = true then ((spec_l16Table.f k (w : Int) (h : Int) W).bind fun t126 => (if 0 ≤ (wrap64 ((wrap64 ((w : Int) * 17)) + (h : Int))) then (if (wrap64 ((wrap64 ((w : Int) * 17)) + (h : Int))) < (t126.length : Int) then (some (rd t126 (wrap64 ((wrap64 ((w : Int) * 17)) + (h : Int))))) else (none)) else (none))) else (some (-1)))) (tq T w h) := by
      refine Ev.bind hs (evT rfl (Ev.bind sT ?_))
      rw [ixP (a := w) (b := h) (by omega) (by omega), rdtq]
      exact evT (by omega) (evT (by rw [hT]; omega) (evSome _))
    have iV : T.getD (w * 17 + h) 0 = tq T w h := rfl
    have hi := plItob _ hI
    by_cases c : tq T w h < 0
    · exact ⟨⟨#[110, 111, 110, 101]⟩, Ev.bind sV (evT c (evSome _)), by rw [iV]; exact evT c (evSome _)⟩
    · refine ⟨itob (tq T w h) ++ (⟨#[32]⟩ : ByteArray) ++ p, Ev.bind sV (evF c ?_), ?_⟩
      · refine Ev.bind (spec_fmt_ev _ hI) (evT (by omega) (Ev.bind (Ev.bind hs (evT rfl (Ev.bind sT (Ev.bind p1 (evSome _))))) ?_))
        exact evT (by simp only [plApp, show (⟨#[32]⟩ : ByteArray).size = 1 from rfl]; omega) (evSome _)
      · rw [iV]
        refine evF c (evB (impl_fmt _ hI) (evT (by omega) (Ev.bind ⟨k0, p2⟩ ?_)))
        exact evT (by simp only [plApp, show (⟨#[32]⟩ : ByteArray).size = 1 from rfl]; omega) (evSome _)

theorem FnExactPlanLine : ∀ (a0 : Int) (a1 : Int) (l2 : List (List (Int))), Opens.I64 a0 → Opens.I64 a1 → (l2.length ≤ 9223372036854775807 ∧ ∀ x ∈ l2, (x.length ≤ 9223372036854775807 ∧ ∀ y ∈ x, Opens.I64 y)) → ∃ k, laws_FnExactPlanLine.f k a0 a1 l2 = some true := by
  intro a0 a1 l0 g0 g1 g2
  refine Ev.rounds (g := fun k => laws_FnExactPlanLine.f k a0 a1 l0) ?_
  unfold laws_FnExactPlanLine.f
  rcases szIntSS_ev l0 1048576 (by omega) (by omega) g2.1 (fun x hx => (g2.2 x hx).1) with h | ⟨b, h, hb, _, hl, hx⟩
  · exact Ev.bind h (evT (by omega) (evSome _))
  · refine Ev.bind h (evF (by omega) ?_)
    obtain ⟨b, h1, h2⟩ := pl_line a0 a1 l0
    refine Ev.bind (toIntSS_ev l0 hl hx) (Ev.bind h1 (Ev.bind (toIntSS_ev l0 hl hx) (Ev.bind h2 ?_)))
    exact evT rfl (Ev.bind (toIntSS_ev l0 hl hx) (Ev.bind (eqIntSS_ev l0 hl hx) (evT rfl (evSome _))))

end Go.Proofs.YtndlmckfacegeaaDoor.Pure
