/- FnExactRulerLine: for every list of parts, RulerLine of the program and of the reference answer alike and leave the list as it is. No condition. -/
import Derived.Test.YtpmpcaahbhdiiaaDoorQFnExactRulerLinex5
import Derived.Test.YtpmpcaahbhdiiaaDoorOpens
namespace Go.Proofs.YtpmpcaahbhdiiaaDoor.Pure
open Go.RowKit Go.Proofs.YtpmpcaahbhdiiaaDoor Go.Proofs.YtpmpcaahbhdiiaaDoor.QFnExactRulerLine Go.Proofs.YtpmpcaahbhdiiaaDoorW.PrintWords Go.Proofs.YtpmpcaahbhdiiaaDoorW.PrintLast
set_option linter.unusedVariables false
set_option linter.unusedSimpArgs false

/-! base -/
theorem w64 {x : Int} (h0 : -9223372036854775808 ≤ x) (h1 : x ≤ 9223372036854775807) : wrap64 x = x := by unfold wrap64; omega
theorem w64n (n : Nat) (h : n ≤ 9223372036854775807) : wrap64 (n : Int) = n := w64 (by omega) (by omega)
theorem w64s (n : Nat) (h : n < 9223372036854775807) : wrap64 ((n : Int) + 1) = ((n + 1 : Nat) : Int) := by rw [w64 (by omega) (by omega)]; omega
theorem evSome {α : Type} (r : α) : Ev (fun _ : Nat => some r) r := ⟨0, fun _ _ => rfl⟩
theorem evOf {α : Type} {f : Option α} {r : α} (h : f = some r) : Ev (fun _ : Nat => f) r := ⟨0, fun _ _ => h⟩
theorem evUniq {α : Type} {g : Nat → Option α} {r q : α} (h : Ev g r) (k : Ev g q) : r = q := by
  obtain ⟨a, ha⟩ := h
  obtain ⟨b, hb⟩ := k
  have h1 := ha (a + b) (by omega)
  rw [hb (a + b) (by omega)] at h1
  exact (Option.some.inj h1).symm
theorem evIf {α : Type} {c : Prop} [Decidable c] {f g : Nat → Option α} {r : α} (hp : c → Ev f r) (hn : ¬ c → Ev g r) : Ev (fun k => if c then f k else g k) r := by
  by_cases h : c
  · simp only [if_pos h]; exact hp h
  · simp only [if_neg h]; exact hn h
theorem evT {α : Type} {c : Prop} [Decidable c] {f g : Nat → Option α} {r : α} (h : c) (hp : Ev f r) : Ev (fun k => if c then f k else g k) r := by
  simp only [if_pos h]; exact hp
theorem evF {α : Type} {c : Prop} [Decidable c] {f g : Nat → Option α} {r : α} (h : ¬ c) (hp : Ev g r) : Ev (fun k => if c then f k else g k) r := by
  simp only [if_neg h]; exact hp
theorem evB {α β : Type} {f : Option α} {g : Nat → α → Option β} {a : α} {r : β} (h : f = some a) (k : Ev (fun n => g n a) r) : Ev (fun n => f.bind (g n)) r := by
  subst h
  exact k
theorem getD_eq {α : Type} (l : List α) (i : Nat) (z : α) (h : i < l.length) : l.getD i z = l[i] := by
  rw [List.getD_eq_getElem?_getD, List.getElem?_eq_getElem h]; rfl
theorem take_succ' {α : Type} (l : List α) (i : Nat) (h : i < l.length) : l.take (i + 1) = l.take i ++ [l[i]] := by
  rw [List.take_succ_eq_append_getElem h]
theorem set_fill {α : Type} (l : List α) (z x : α) (i d : Nat) (hi : l.length = i) : (l ++ List.replicate (d + 1) z).set i x = l ++ [x] ++ List.replicate d z := by
  subst hi
  rw [List.set_append_right _ _ (Nat.le_refl _), Nat.sub_self, List.replicate_succ, List.set_cons_zero, List.append_assoc]
  rfl
theorem drop_cons {α : Type} (l : List α) (i : Nat) (h : i < l.length) : l.drop i = l[i] :: l.drop (i + 1) := List.drop_eq_getElem_cons h
/-! laws_toIntS -/
theorem toIntS_l0 (l : List Int) (hl : l.length ≤ 9223372036854775806) : ∀ d i : Nat, i + d = l.length → Ev (fun k => laws_toIntS.l0 k l (l.take i ++ List.replicate d 0) (i : Int)) l := by
  intro d
  induction d with
  | zero =>
    intro i hi
    refine Ev.step (fun k => by rw [laws_toIntS.l0]) ?_
    refine evF (by omega) ?_
    have : l.take i ++ List.replicate 0 0 = l := by rw [List.take_of_length_le (by omega)]; simp
    rw [this]
    exact evSome _
  | succ d ih =>
    intro i hi
    refine Ev.step (fun k => by rw [laws_toIntS.l0]) ?_
    refine evT (by omega) (evT (by omega) (evT (by simp; omega) ?_))
    rw [w64s i (by omega), show ((i : Int)).toNat = i from by omega, set_fill _ _ _ _ _ (by rw [List.length_take]; omega)]
    have h2 : rd l (i : Int) = l[i] := by unfold rd; rw [show ((i : Int)).toNat = i from by omega]; exact getD_eq _ _ _ (by omega)
    rw [h2, ← take_succ' l i (by omega)]
    exact ih (i + 1) (by omega)
theorem toIntS_ev (l : List Int) (hl : l.length ≤ 1048576) : Ev (fun k => laws_toIntS.f k l) l := by
  unfold laws_toIntS.f
  refine evT (by omega) (evT (by omega) ?_)
  have h := toIntS_l0 l (by omega) l.length 0 (by omega)
  simpa using h
/-! laws_eqIntS -/
theorem eqIntS_l0 (l : List Int) (hl : l.length ≤ 9223372036854775806) : ∀ d i : Nat, i + d = l.length → Ev (fun k => laws_eqIntS.l0 k l l (i : Int)) true := by
  intro d
  induction d with
  | zero =>
    intro i hi
    refine Ev.step (fun k => by rw [laws_eqIntS.l0]) ?_
    exact evF (by omega) (evSome _)
  | succ d ih =>
    intro i hi
    refine Ev.step (fun k => by rw [laws_eqIntS.l0]) ?_
    refine evT (by omega) (evT (by omega) (evT (by omega) (evT rfl ?_)))
    rw [w64s i (by omega)]
    exact ih (i + 1) (by omega)
theorem eqIntS_ev (l : List Int) (hl : l.length ≤ 1048576) : Ev (fun k => laws_eqIntS.f k l l) true := by
  unfold laws_eqIntS.f
  exact evT rfl (by simpa using eqIntS_l0 l (by omega) l.length 0 (by omega))
/-! l01In -/
theorem l01In_t {a lo hi : Int} (h0 : lo ≤ a) (h1 : a ≤ hi) : spec_l01In.f a lo hi = some true := by unfold spec_l01In.f; rw [if_pos h0]; simp [h1]
theorem l01In_f {a lo hi : Int} (h : ¬ (lo ≤ a ∧ a ≤ hi)) : spec_l01In.f a lo hi = some false := by
  unfold spec_l01In.f
  by_cases h0 : lo ≤ a
  · rw [if_pos h0]; simp; omega
  · rw [if_neg h0]
theorem l01In_eq (a lo hi : Int) : spec_l01In.f a lo hi = some (decide (lo ≤ a ∧ a ≤ hi)) := by
  by_cases h : lo ≤ a ∧ a ≤ hi
  · rw [l01In_t h.1 h.2]; simp [h]
  · rw [l01In_f h]; simp; omega
/-! stepsDef -/
def okI (l : List (List Int)) (i : Nat) : Bool :=
  decide (((rd_L2 l (i : Int)).length = 2 ∧ (0 ≤ rd (rd_L2 l (i : Int)) 0 ∧ rd (rd_L2 l (i : Int)) 0 ≤ 100000) ∧ 0 ≤ rd (rd_L2 l (i : Int)) 1 ∧ rd (rd_L2 l (i : Int)) 1 ≤ 1000) ∧
    (i = 0 → rd (rd_L2 l (i : Int)) 0 = 0) ∧ (0 < i → rd (rd_L2 l ((i : Int) - 1)) 0 < rd (rd_L2 l (i : Int)) 0 ∧ rd (rd_L2 l (i : Int)) 1 ≤ rd (rd_L2 l ((i : Int) - 1)) 1))
def allFrom (l : List (List Int)) : Nat → Nat → Bool
  | _, 0 => true
  | i, d + 1 => okI l i && allFrom l (i + 1) d
def stepsOk (l : List (List Int)) : Bool := decide (1 ≤ l.length ∧ l.length ≤ 6) && allFrom l 0 l.length
theorem allFrom_t {l : List (List Int)} {i d : Nat} (h : okI l i = true) : allFrom l i (d + 1) = allFrom l (i + 1) d := by simp [allFrom, h]
theorem allFrom_f {l : List (List Int)} {i d : Nat} (h : okI l i = false) : allFrom l i (d + 1) = false := by simp [allFrom, h]
theorem allFrom_get {l : List (List Int)} : ∀ (d i : Nat), allFrom l i d = true → ∀ j, i ≤ j → j < i + d → okI l j = true
  | 0, i, _, j, h0, h1 => by omega
  | d + 1, i, h, j, h0, h1 => by
    simp only [allFrom, Bool.and_eq_true] at h
    rcases Nat.eq_or_lt_of_le h0 with rfl | hlt
    · exact h.1
    · exact allFrom_get d (i + 1) h.2 j (by omega) (by omega)
theorem stepsOk_get {l : List (List Int)} (h : stepsOk l = true) : (1 ≤ l.length ∧ l.length ≤ 6) ∧ ∀ j, j < l.length → okI l j = true := by
  simp only [stepsOk, Bool.and_eq_true, decide_eq_true_eq] at h
  exact ⟨h.1, fun j hj => allFrom_get _ 0 h.2 j (by omega) (by omega)⟩
theorem okI_row {l : List (List Int)} {i : Nat} (h : okI l i = true) : (rd_L2 l (i : Int)).length = 2 ∧ (0 ≤ rd (rd_L2 l (i : Int)) 0 ∧ rd (rd_L2 l (i : Int)) 0 ≤ 100000) ∧ 0 ≤ rd (rd_L2 l (i : Int)) 1 ∧ rd (rd_L2 l (i : Int)) 1 ≤ 1000 := by
  simp only [okI, decide_eq_true_eq] at h
  exact h.1
theorem okI_t {l : List (List Int)} {i : Nat} {s : List Int} (hs : rd_L2 l (i : Int) = s) (c1 : (s.length : Int) = 2) (c2 : 0 ≤ rd s 0 ∧ rd s 0 ≤ 100000) (c3 : 0 ≤ rd s 1 ∧ rd s 1 ≤ 1000) (c4 : i = 0 → rd s 0 = 0) (c5 : 0 < i → rd (rd_L2 l ((i : Int) - 1)) 0 < rd s 0 ∧ rd s 1 ≤ rd (rd_L2 l ((i : Int) - 1)) 1) : okI l i = true := by
  unfold okI; rw [decide_eq_true_eq, hs]; exact ⟨⟨by omega, c2, c3⟩, c4, c5⟩
theorem okI_f {l : List (List Int)} {i : Nat} {s : List Int} (hs : rd_L2 l (i : Int) = s) (h : ¬ ((s.length : Int) = 2 ∧ (0 ≤ rd s 0 ∧ rd s 0 ≤ 100000) ∧ (0 ≤ rd s 1 ∧ rd s 1 ≤ 1000) ∧ (i = 0 → rd s 0 = 0) ∧ (0 < i → rd (rd_L2 l ((i : Int) - 1)) 0 < rd s 0 ∧ rd s 1 ≤ rd (rd_L2 l ((i : Int) - 1)) 1))) : okI l i = false := by
  unfold okI; rw [decide_eq_false_iff_not, hs]; exact fun h2 => h ⟨by omega, h2.1.2.1, h2.1.2.2, h2.2.1, h2.2.2⟩
/-! price -/
def priceFrom (a : Int) (l : List (List Int)) : Nat → Nat → Int → Int
  | _, 0, p => p
  | i, d + 1, p => priceFrom a l (i + 1) d (if rd (rd_L2 l (i : Int)) 0 ≤ a then rd (rd_L2 l (i : Int)) 1 else p)
def price (a : Int) (l : List (List Int)) : Int := priceFrom a l 0 l.length 0 * a
def priceOf (a : Int) (l : List (List Int)) : Int := if stepsOk l = true ∧ 0 ≤ a ∧ a ≤ 100000 then price a l else -1
theorem priceFrom_bound (a : Int) (l : List (List Int)) (ho : ∀ j, j < l.length → okI l j = true) : ∀ (d i : Nat) (p : Int), i + d = l.length → 0 ≤ p → p ≤ 1000 → 0 ≤ priceFrom a l i d p ∧ priceFrom a l i d p ≤ 1000
  | 0, i, p, _, h0, h1 => ⟨h0, h1⟩
  | d + 1, i, p, hi, h0, h1 => by
    have h2 := okI_row (ho i (by omega))
    unfold priceFrom
    refine priceFrom_bound a l ho d (i + 1) _ (by omega) ?_ ?_
    · split <;> omega
    · split <;> omega
theorem price_bound {a : Int} {l : List (List Int)} (h : stepsOk l = true) (h0 : 0 ≤ a) (h1 : a ≤ 100000) : 0 ≤ price a l ∧ price a l ≤ 100000000 := by
  have hb := priceFrom_bound a l (stepsOk_get h).2 l.length 0 0 (by omega) (by omega) (by omega)
  unfold price
  refine ⟨Int.mul_nonneg hb.1 h0, ?_⟩
  have := Int.mul_le_mul hb.2 h1 h0 (by omega)
  omega
theorem priceFrom_wrap {a : Int} {l : List (List Int)} (h : stepsOk l = true) (h0 : 0 ≤ a) (h1 : a ≤ 100000) : wrap64 (priceFrom a l 0 l.length 0 * a) = price a l := by
  have hb := price_bound h h0 h1
  unfold price at hb ⊢
  exact w64 (by omega) (by omega)
theorem priceOf_neg {a : Int} {l : List (List Int)} : priceOf a l < 0 ↔ ¬ (stepsOk l = true ∧ 0 ≤ a ∧ a ≤ 100000) := by
  unfold priceOf
  by_cases h : stepsOk l = true ∧ 0 ≤ a ∧ a ≤ 100000
  · rw [if_pos h]
    have := price_bound h.1 h.2.1 h.2.2
    exact ⟨fun h2 => by omega, fun h2 => absurd h h2⟩
  · rw [if_neg h]
    exact ⟨fun _ => h, fun _ => by omega⟩
/-! bestDef -/
def bestFrom (a : Int) (l : List (List Int)) : Nat → Nat → Int → Int
  | _, 0, b => b
  | i, d + 1, b => bestFrom a l (i + 1) d (if rd (rd_L2 l (i : Int)) 0 > a ∧ price (rd (rd_L2 l (i : Int)) 0) l < price b l then rd (rd_L2 l (i : Int)) 0 else b)
def bestOf (a : Int) (l : List (List Int)) : Int := if stepsOk l = true ∧ 0 ≤ a ∧ a ≤ 100000 then bestFrom a l 0 l.length a else -1
/-! btData -/
theorem bt_data (s : ByteArray) (i : Nat) (h : i < s.data.toList.length) : bt s (i : Int) = ((s.data.toList[i]).toNat : Int) := by
  unfold bt
  rw [show ((i : Int)).toNat = i from by omega]
  have h2 : i < s.size := by simpa using h
  rw [dif_pos h2]
  simp [ByteArray.getElem_eq_getElem_data]
theorem size_data (s : ByteArray) : s.data.toList.length = s.size := by simp
/-! fmtBase -/
def I64' (x : Int) : Prop := -9223372036854775808 ≤ x ∧ x ≤ 9223372036854775807
def itob (n : Int) : ByteArray := ⟨(Lib.itoa n).toArray⟩
theorem ba_ext {a b : ByteArray} (h : a.data.toList = b.data.toList) : a = b := by
  obtain ⟨⟨a⟩⟩ := a
  obtain ⟨⟨b⟩⟩ := b
  exact congrArg (fun l => (⟨⟨l⟩⟩ : ByteArray)) h
theorem ba_size (l : List UInt8) : (⟨l.toArray⟩ : ByteArray).size = l.length := by show l.toArray.size = _; exact List.size_toArray
theorem ba_size' (b : ByteArray) : b.size = b.data.toList.length := by rw [Array.length_toList]; rfl
theorem ba_app (a b : List UInt8) : (⟨a.toArray⟩ : ByteArray) ++ (⟨b.toArray⟩ : ByteArray) = ⟨(a ++ b).toArray⟩ := by
  apply ba_ext
  rw [ByteArray.data_append, Array.toList_append]
theorem ba_app_l (a b : ByteArray) : (a ++ b).data.toList = a.data.toList ++ b.data.toList := by rw [ByteArray.data_append, Array.toList_append]
theorem itob_data (n : Int) : (itob n).data.toList = Lib.itoa n := rfl
theorem one_num (d : Nat) (h : d < 10) : strOfNums [((48 + d : Nat) : Int)] = ⟨([UInt8.ofNat (48 + d)] : List UInt8).toArray⟩ := by
  apply ba_ext
  rw [strOfNums_data, List.map_cons, List.map_nil, Int.toNat_natCast]
theorem dec_len : ∀ (k u : Nat), 1 ≤ k → u < 10 ^ k → (Lib.decDigits u).length ≤ k
  | 0, u, h, _ => by omega
  | k + 1, u, _, h => by
    rw [Lib.decDigits]
    split
    · simp
    · rename_i h9
      rw [List.length_append, List.length_singleton]
      have hk : 1 ≤ k := by
        cases k with
        | zero => simp at h; omega
        | succ k => omega
      have := dec_len k (u / 10) hk (by rw [Nat.pow_succ] at h; omega)
      omega
theorem itoa_len (n : Int) (h : I64' n) : (Lib.itoa n).length ≤ 20 := by
  unfold I64' at h
  unfold Lib.itoa
  split
  · have := dec_len 19 n.natAbs (by decide) (by omega)
    rw [List.length_cons]; omega
  · have := dec_len 19 n.toNat (by decide) (by omega)
    omega
/-! fmtInt -/
theorem one_ch (u : Nat) (h9 : u < 10) : (wrap64 (48 + (u : Int))) % 256 = ((48 + u : Nat) : Int) := by rw [w64 (by omega) (by omega)]; omega
theorem fmt_l0 : ∀ (m : Nat) (u : Nat) (acc : List UInt8), u < 10 ^ (m + 1) → acc.length + m ≤ 1000 → u < 9223372036854775808 → Ev (fun k => spec_FormatInt.l0 k (u : Int) ⟨acc.toArray⟩) ⟨(Lib.decDigits u ++ acc).toArray⟩ := by
  intro m
  induction m with
  | zero =>
    intro u acc hu h2 h1
    have h9 : u < 10 := by simpa using hu
    refine Ev.step (fun k => by rw [spec_FormatInt.l0]) ?_
    refine evF (by omega) ?_
    rw [one_ch u h9]
    refine evB rfl ?_
    rw [one_num u h9]
    refine evT (by rw [ba_size, ba_size]; simp; omega) ?_
    rw [ba_app, Lib.decDigits, dif_pos h9]
    exact evSome _
  | succ m ih =>
    intro u acc hu h2 h1
    refine Ev.step (fun k => by rw [spec_FormatInt.l0]) ?_
    by_cases h9 : u < 10
    · refine evF (by omega) ?_
      rw [one_ch u h9]
      refine evB rfl ?_
      rw [one_num u h9]
      refine evT (by rw [ba_size, ba_size]; simp; omega) ?_
      rw [ba_app, Lib.decDigits, dif_pos h9]
      exact evSome _
    · refine evT (by omega) ?_
      have e0 : Int.tmod (u : Int) 10 = ((u % 10 : Nat) : Int) := by rw [Int.tmod_eq_emod_of_nonneg (by omega)]; omega
      have e1 : Int.tdiv (u : Int) 10 = ((u / 10 : Nat) : Int) := by rw [Int.tdiv_eq_ediv_of_nonneg (by omega)]; omega
      rw [e0, e1, one_ch _ (by omega), w64 (x := ((u / 10 : Nat) : Int)) (by omega) (by omega)]
      refine evB rfl ?_
      rw [one_num (u % 10) (by omega)]
      refine evT (by rw [ba_size, ba_size]; simp; omega) ?_
      rw [ba_app]
      have := ih (u / 10) ([UInt8.ofNat (48 + u % 10)] ++ acc) (by rw [Nat.pow_succ] at hu; omega) (by simp; omega) (by omega)
      rw [Lib.decDigits, dif_neg h9, List.append_assoc]
      exact this
theorem fmt_neg : ∀ (m : Nat) (u : Nat), 1 ≤ u → u < 10 ^ (m + 1) → u ≤ 9223372036854775808 → m ≤ 30 → Ev (fun k => spec_FormatInt.f k (-(u : Int))) ⟨(45 :: Lib.decDigits u).toArray⟩ := by
  intro m
  induction m with
  | zero =>
    intro u h0 hu h1 hm
    have h9 : u < 10 := by simpa using hu
    refine Ev.step (fun k => by rw [spec_FormatInt.f]) ?_
    refine evT (by omega) ?_
    have e1 : Int.tdiv (-(u : Int)) 10 = 0 := by rw [Int.neg_tdiv, Int.tdiv_eq_ediv_of_nonneg (by omega)]; omega
    rw [e1]
    refine evT (w64 (by omega) (by omega)) ?_
    have e : (48 - (-(u : Int))) = 48 + (u : Int) := by omega
    rw [e, one_ch u h9]
    refine evB rfl ?_
    rw [one_num u h9]
    refine evT (by rw [ba_size]; simp) ?_
    rw [Lib.decDigits, dif_pos h9]
    exact evSome _
  | succ m ih =>
    intro u h0 hu h1 hm
    refine Ev.step (fun k => by rw [spec_FormatInt.f]) ?_
    refine evT (by omega) ?_
    have e1 : Int.tdiv (-(u : Int)) 10 = -((u / 10 : Nat) : Int) := by rw [Int.neg_tdiv, Int.tdiv_eq_ediv_of_nonneg (by omega)]; omega
    have e0 : Int.tmod (-(u : Int)) 10 = -((u % 10 : Nat) : Int) := by rw [Int.neg_tmod, Int.tmod_eq_emod_of_nonneg (by omega)]; omega
    rw [e1, e0, w64 (x := -((u / 10 : Nat) : Int)) (by omega) (by omega)]
    by_cases h9 : u < 10
    · refine evT (by omega) ?_
      have e : (48 - (-(u : Int))) = 48 + (u : Int) := by omega
      rw [e, one_ch u h9]
      refine evB rfl ?_
      rw [one_num u h9]
      refine evT (by rw [ba_size]; simp) ?_
      rw [Lib.decDigits, dif_pos h9]
      exact evSome _
    · refine evF (by omega) ?_
      refine Ev.bind (ih (u / 10) (by omega) (by rw [Nat.pow_succ] at hu; omega) (by omega) (by omega)) ?_
      have e : (48 - (-((u % 10 : Nat) : Int))) = 48 + ((u % 10 : Nat) : Int) := by omega
      rw [e, one_ch _ (by omega)]
      refine evB rfl ?_
      rw [one_num (u % 10) (by omega)]
      have hl := dec_len (m + 1) (u / 10) (by omega) (by rw [Nat.pow_succ] at hu; omega)
      refine evT (by rw [ba_size, ba_size]; simp; omega) ?_
      rw [ba_app]
      have e3 : Lib.decDigits u = Lib.decDigits (u / 10) ++ [UInt8.ofNat (48 + u % 10)] := by rw [Lib.decDigits, dif_neg h9]
      rw [e3, ← List.cons_append]
      exact evSome _
theorem spec_fmt_ev (n : Int) (h : I64' n) : Ev (fun k => spec_FormatInt.f k n) (itob n) := by
  unfold I64' at h
  unfold itob Lib.itoa
  by_cases h0 : n < 0
  · rw [if_pos h0]
    have := fmt_neg 18 n.natAbs (by omega) (by omega) (by omega) (by omega)
    rwa [show -((n.natAbs : Nat) : Int) = n by omega] at this
  · rw [if_neg h0]
    refine Ev.step (fun k => by rw [spec_FormatInt.f]) ?_
    refine evF h0 ?_
    have := fmt_l0 18 n.toNat [] (by omega) (by simp) (by omega)
    rwa [show ((n.toNat : Nat) : Int) = n by omega, List.append_nil] at this
/-! fmtImpl -/
theorem impl_fmt (n : Int) (h : I64' n) : impl_FormatInt.f n = some (itob n) := by
  unfold impl_FormatInt.f
  exact if_pos h
/-! rulerBase -/
def enR : List Int → List UInt8 → Int → List Int
  | x :: l, b :: bs, at_ => (if b = 114 then at_ + x else at_ - x) :: enR l bs (if b = 114 then at_ + x else at_ - x)
  | _, _, _ => []
theorem enR_bd : ∀ (l : List Int) (bs : List UInt8) (at_ m : Int), (∀ x ∈ l, 1 ≤ x ∧ x ≤ 50) → -m ≤ at_ → at_ ≤ m → ∀ y ∈ enR l bs at_, -(m + 50 * l.length) ≤ y ∧ y ≤ m + 50 * l.length
  | [], bs, at_, m, _, _, _, y, hy => by simp [enR] at hy
  | x :: l, [], at_, m, _, _, _, y, hy => by simp [enR] at hy
  | x :: l, b :: bs, at_, m, hl, h0, h1, y, hy => by
    have hx := hl x (by simp)
    have hl' : ∀ z ∈ l, 1 ≤ z ∧ z ≤ 50 := fun z hz => hl z (List.mem_cons_of_mem _ hz)
    rw [enR, List.mem_cons] at hy
    simp only [List.length_cons]
    have e : -(m + 50) ≤ (if b = 114 then at_ + x else at_ - x) ∧ (if b = 114 then at_ + x else at_ - x) ≤ m + 50 := by split <;> omega
    rcases hy with hy | hy
    · rw [hy]; omega
    · have := enR_bd l bs _ (m + 50) hl' e.1 e.2 y hy
      omega
def mxL (a : Int) (l : List Int) : Int := l.foldl mx a
def mnL (a : Int) (l : List Int) : Int := l.foldl mn a
theorem mx_cases (a b : Int) : mx a b = a ∨ mx a b = b := by unfold mx; split <;> simp
theorem mn_cases (a b : Int) : mn a b = a ∨ mn a b = b := by unfold mn; split <;> simp
theorem mxL_bd (M : Int) : ∀ (l : List Int) (a : Int), (-M ≤ a ∧ a ≤ M) → (∀ y ∈ l, -M ≤ y ∧ y ≤ M) → -M ≤ mxL a l ∧ mxL a l ≤ M
  | [], a, h, _ => h
  | x :: l, a, h, hl => by
    have hx := hl x (by simp)
    refine mxL_bd M l (mx a x) ?_ (fun y hy => hl y (List.mem_cons_of_mem _ hy))
    rcases mx_cases a x with e | e <;> rw [e] <;> assumption
theorem mnL_bd (M : Int) : ∀ (l : List Int) (a : Int), (-M ≤ a ∧ a ≤ M) → (∀ y ∈ l, -M ≤ y ∧ y ≤ M) → -M ≤ mnL a l ∧ mnL a l ≤ M
  | [], a, h, _ => h
  | x :: l, a, h, hl => by
    have hx := hl x (by simp)
    refine mnL_bd M l (mn a x) ?_ (fun y hy => hl y (List.mem_cons_of_mem _ hy))
    rcases mn_cases a x with e | e <;> rw [e] <;> assumption
/-- The letters of a laying. -/
def layR (kk : Int) : Nat → List UInt8
  | 0 => []
  | j + 1 => (if Go.bits .and .i64 (shr .i64 kk (j : Int)) 1 = 1 then 114 else 108) :: layR kk j
theorem layR_len (kk : Int) : ∀ n, (layR kk n).length = n
  | 0 => rfl
  | n + 1 => by rw [layR, List.length_cons, layR_len kk n]
def roomR (l : List Int) (bs : List UInt8) : Int := mxL 0 (enR l bs 0) - mnL 0 (enR l bs 0)
theorem roomR_bd (l : List Int) (bs : List UInt8) (hl : ∀ x ∈ l, 1 ≤ x ∧ x ≤ 50) (hn : l.length ≤ 10) : -1000 ≤ roomR l bs ∧ roomR l bs ≤ 1000 := by
  have h := enR_bd l bs 0 0 hl (by omega) (by omega)
  have h2 : ∀ y ∈ enR l bs 0, -500 ≤ y ∧ y ≤ 500 := fun y hy => by have := h y hy; omega
  have a := mxL_bd 500 _ 0 (by omega) h2
  have b := mnL_bd 500 _ 0 (by omega) h2
  unfold roomR
  omega
theorem btR (l : List UInt8) (i : Nat) (h : i < l.length) : bt ⟨l.toArray⟩ (i : Int) = (l[i].toNat : Int) := bt_data ⟨l.toArray⟩ i h
theorem btR114 (l : List UInt8) (i : Nat) (h : i < l.length) : bt ⟨l.toArray⟩ (i : Int) = 114 ↔ l[i] = 114 := by
  rw [btR l i h]
  constructor
  · intro e
    have e2 : l[i].toNat = 114 := by omega
    exact UInt8.toNat_inj.1 e2
  · intro e; rw [e]; rfl
theorem take_drop_en {l : List Int} {i : Nat} (h : i < l.length) : l.drop i = rd l (i : Int) :: l.drop (i + 1) := by
  have : rd l (i : Int) = l[i] := by unfold rd; rw [show ((i : Int)).toNat = i from by omega]; exact getD_eq _ _ _ h
  rw [this]; exact drop_cons l i h
/-! rulerEnds -/
theorem spec_ends_l0 (l : List Int) (bs : List UInt8) (hl : ∀ x ∈ l, 1 ≤ x ∧ x ≤ 50) (hn : l.length ≤ 10) (hb : bs.length = l.length) : ∀ (d i : Nat) (at_ : Int) (acc : List Int), i + d = l.length → -(50 * (i : Int)) ≤ at_ → at_ ≤ 50 * (i : Int) → acc.length = i + 1 → Ev (fun k => spec_l22Ends.l0 k ⟨bs.toArray⟩ at_ acc l (l.length : Int) (i : Int)) (acc ++ enR (l.drop i) (bs.drop i) at_) := by
  intro d
  induction d with
  | zero =>
    intro i at_ acc hi h0 h1 ha
    refine Ev.step (fun k => by rw [spec_l22Ends.l0]) ?_
    refine evF (by omega) ?_
    rw [List.drop_of_length_le (by omega), enR, List.append_nil]
    · exact evSome _
    · intro x l b bs h; cases h
  | succ d ih =>
    intro i at_ acc hi h0 h1 ha
    have hil : i < l.length := by omega
    have hib : i < bs.length := by omega
    have hx := hl l[i] (List.getElem_mem hil)
    have hr : rd l (i : Int) = l[i] := by unfold rd; rw [show ((i : Int)).toNat = i from by omega]; exact getD_eq _ _ _ hil
    refine Ev.step (fun k => by rw [spec_l22Ends.l0]) ?_
    refine evT (by omega) (evT (by omega) (evT (by omega) (evT (by rw [ba_size]; omega) ?_)))
    rw [take_drop_en hil, List.drop_eq_getElem_cons hib, enR, hr]
    by_cases c : bs[i] = 114
    · refine evT ((btR114 bs i hib).2 c) (evT (by omega) ?_)
      rw [if_pos c, w64 (x := at_ + l[i]) (by omega) (by omega), w64s i (by omega)]
      have := ih (i + 1) (at_ + l[i]) (acc ++ [at_ + l[i]]) (by omega) (by omega) (by omega) (by simp; omega)
      simpa using this
    · refine evF (fun e => c ((btR114 bs i hib).1 e)) (evT (by omega) ?_)
      rw [if_neg c, w64 (x := at_ - l[i]) (by omega) (by omega), w64s i (by omega)]
      have := ih (i + 1) (at_ - l[i]) (acc ++ [at_ - l[i]]) (by omega) (by omega) (by omega) (by simp; omega)
      simpa using this
theorem spec_ends_ev (l : List Int) (bs : List UInt8) (hl : ∀ x ∈ l, 1 ≤ x ∧ x ≤ 50) (hn : l.length ≤ 10) (hb : bs.length = l.length) : Ev (fun k => spec_l22Ends.f k l ⟨bs.toArray⟩) (0 :: enR l bs 0) := by
  unfold spec_l22Ends.f
  have := spec_ends_l0 l bs hl hn hb l.length 0 0 [0] (by omega) (by omega) (by omega) rfl
  simpa using this
theorem impl_ends_l0 (l : List Int) (bs : List UInt8) (hl : ∀ x ∈ l, 1 ≤ x ∧ x ≤ 50) (hn : l.length ≤ 10) (hb : bs.length = l.length) : ∀ (d i : Nat) (at_ : Int) (acc : List Int), i + d = l.length → -(50 * (i : Int)) ≤ at_ → at_ ≤ 50 * (i : Int) → acc.length = i + 1 → rd acc (i : Int) = at_ → Ev (fun k => impl_ends.l0 k l ⟨bs.toArray⟩ acc (bs.length : Int) (i : Int)) (acc ++ enR (l.drop i) (bs.drop i) at_) := by
  intro d
  induction d with
  | zero =>
    intro i at_ acc hi h0 h1 ha hat
    refine Ev.step (fun k => by rw [impl_ends.l0]) ?_
    refine evF (by omega) ?_
    rw [List.drop_of_length_le (by omega), enR, List.append_nil]
    · exact evSome _
    · intro x l b bs h; cases h
  | succ d ih =>
    intro i at_ acc hi h0 h1 ha hat
    have hil : i < l.length := by omega
    have hib : i < bs.length := by omega
    have hx := hl l[i] (List.getElem_mem hil)
    have hr : rd l (i : Int) = l[i] := by unfold rd; rw [show ((i : Int)).toNat = i from by omega]; exact getD_eq _ _ _ hil
    have hlast : ∀ y : Int, rd (acc ++ [y]) ((i + 1 : Nat) : Int) = y := by
      intro y
      unfold rd
      rw [show (((i + 1 : Nat) : Int)).toNat = i + 1 from by omega, getD_eq _ _ _ (by simp; omega), List.getElem_append_right (by omega)]
      simp [ha]
    refine Ev.step (fun k => by rw [impl_ends.l0]) ?_
    refine evT (by omega) (evT (by omega) (evT (by rw [ba_size]; omega) ?_))
    rw [take_drop_en hil, List.drop_eq_getElem_cons hib, enR, hr, hat]
    by_cases c : bs[i] = 114
    · refine evT ((btR114 bs i hib).2 c) (evT (by omega) (evT (by omega) (evT (by omega) ?_)))
      rw [if_pos c, w64 (x := at_ + l[i]) (by omega) (by omega), w64s i (by omega)]
      have := ih (i + 1) (at_ + l[i]) (acc ++ [at_ + l[i]]) (by omega) (by omega) (by omega) (by simp; omega) (hlast _)
      simpa using this
    · refine evF (fun e => c ((btR114 bs i hib).1 e)) (evT (by omega) (evT (by omega) (evT (by omega) ?_)))
      rw [if_neg c, w64 (x := at_ - l[i]) (by omega) (by omega), w64s i (by omega)]
      have := ih (i + 1) (at_ - l[i]) (acc ++ [at_ - l[i]]) (by omega) (by omega) (by omega) (by simp; omega) (hlast _)
      simpa using this
theorem impl_ends_ev (l : List Int) (bs : List UInt8) (hl : ∀ x ∈ l, 1 ≤ x ∧ x ≤ 50) (hn : l.length ≤ 10) (hb : bs.length = l.length) : Ev (fun k => impl_ends.f k l ⟨bs.toArray⟩) (0 :: enR l bs 0) := by
  unfold impl_ends.f
  rw [ba_size]
  have := impl_ends_l0 l bs hl hn hb l.length 0 0 [0] (by omega) (by omega) (by omega) rfl rfl
  simpa using this
/-! rulerRoom -/
theorem spec_room_l0 (l : List Int) (hn : l.length ≤ 100) : ∀ (d i : Nat) (a b : Int), i + d = l.length → Ev (fun k => spec_l22Room.l0 k a b l (l.length : Int) (i : Int)) (wrap64 (mxL b (l.drop i) - mnL a (l.drop i))) := by
  intro d
  induction d with
  | zero =>
    intro i a b hi
    refine Ev.step (fun k => by rw [spec_l22Room.l0]) ?_
    refine evF (by omega) ?_
    rw [List.drop_of_length_le (by omega)]
    exact evSome _
  | succ d ih =>
    intro i a b hi
    refine Ev.step (fun k => by rw [spec_l22Room.l0]) ?_
    refine evT (by omega) (evT (by omega) (evT (by omega) ?_))
    rw [w64s i (by omega), take_drop_en (by omega : i < l.length)]
    exact ih (i + 1) _ _ (by omega)
theorem impl_max_l0 (l : List Int) (hn : l.length ≤ 100) : ∀ (d i : Nat) (a : Int), i + d = l.length → Ev (fun k => slices_Max_int.l0 k l a (i : Int)) (mxL a (l.drop i)) := by
  intro d
  induction d with
  | zero =>
    intro i a hi
    refine Ev.step (fun k => by rw [slices_Max_int.l0]) ?_
    refine evF (by omega) ?_
    rw [List.drop_of_length_le (by omega)]
    exact evSome _
  | succ d ih =>
    intro i a hi
    refine Ev.step (fun k => by rw [slices_Max_int.l0]) ?_
    refine evT (by omega) (evT (by omega) ?_)
    rw [w64s i (by omega), take_drop_en (by omega : i < l.length)]
    exact ih (i + 1) _ (by omega)
theorem impl_min_l0 (l : List Int) (hn : l.length ≤ 100) : ∀ (d i : Nat) (a : Int), i + d = l.length → Ev (fun k => slices_Min_int.l0 k l a (i : Int)) (mnL a (l.drop i)) := by
  intro d
  induction d with
  | zero =>
    intro i a hi
    refine Ev.step (fun k => by rw [slices_Min_int.l0]) ?_
    refine evF (by omega) ?_
    rw [List.drop_of_length_le (by omega)]
    exact evSome _
  | succ d ih =>
    intro i a hi
    refine Ev.step (fun k => by rw [slices_Min_int.l0]) ?_
    refine evT (by omega) (evT (by omega) ?_)
    rw [w64s i (by omega), take_drop_en (by omega : i < l.length)]
    exact ih (i + 1) _ (by omega)
theorem spec_room_ev (t : List Int) (hn : t.length ≤ 90) : Ev (fun k => spec_l22Room.f k (0 :: t)) (wrap64 (mxL 0 t - mnL 0 t)) := by
  unfold spec_l22Room.f
  have := spec_room_l0 (0 :: t) (by rw [List.length_cons]; omega) (0 :: t).length 0 0 0 (by simp)
  simpa [mxL, mnL, mx, mn] using this
theorem impl_room_ev (t : List Int) (hn : t.length ≤ 90) : Ev (fun k => impl_room.f k (0 :: t)) (wrap64 (mxL 0 t - mnL 0 t)) := by
  unfold impl_room.f slices_Max_int.f slices_Min_int.f
  have h1 := impl_max_l0 (0 :: t) (by rw [List.length_cons]; omega) t.length 1 0 (by rw [List.length_cons]; omega)
  have h2 := impl_min_l0 (0 :: t) (by rw [List.length_cons]; omega) t.length 1 0 (by rw [List.length_cons]; omega)
  refine Ev.bind (evF (by rw [List.length_cons]; omega) (evT (by rw [List.length_cons]; omega) h1)) ?_
  refine Ev.bind (evF (by rw [List.length_cons]; omega) (evT (by rw [List.length_cons]; omega) h2)) ?_
  exact evSome _
/-! rulerLay -/
theorem spec_lay_l0 (kk : Int) : ∀ (j : Nat) (acc : List UInt8), j ≤ 20 → acc.length + j ≤ 100 → Ev (fun k => spec_l22Laying.l0 k kk ⟨acc.toArray⟩ ((j : Int) - 1)) ⟨(acc ++ layR kk j).toArray⟩ := by
  intro j
  induction j with
  | zero =>
    intro acc _ _
    refine Ev.step (fun k => by rw [spec_l22Laying.l0]) ?_
    refine evF (by omega) ?_
    rw [layR, List.append_nil]
    exact evSome _
  | succ j ih =>
    intro acc h1 h2
    refine Ev.step (fun k => by rw [spec_l22Laying.l0]) ?_
    refine evT (by omega) (evT (by omega) ?_)
    rw [show (((j + 1 : Nat) : Int) - 1) = (j : Int) by omega, layR, w64 (x := (j : Int) - 1) (by omega) (by omega)]
    have hsz : (⟨acc.toArray⟩ : ByteArray).size + 1 ≤ 9223372036854775807 := by rw [ba_size]; omega
    by_cases c : Go.bits .and .i64 (shr .i64 kk (j : Int)) 1 = 1
    · refine evT c (evT (hsz) ?_)
      rw [if_pos c, show (⟨acc.toArray⟩ : ByteArray) ++ (⟨#[114]⟩ : ByteArray) = ⟨(acc ++ [114]).toArray⟩ from ba_app acc [114]]
      have := ih (acc ++ [114]) (by omega) (by simp; omega)
      simpa using this
    · refine evF c (evT (hsz) ?_)
      rw [if_neg c, show (⟨acc.toArray⟩ : ByteArray) ++ (⟨#[108]⟩ : ByteArray) = ⟨(acc ++ [108]).toArray⟩ from ba_app acc [108]]
      have := ih (acc ++ [108]) (by omega) (by simp; omega)
      simpa using this
theorem spec_lay_ev (n : Nat) (kk : Int) (hn : n ≤ 20) : Ev (fun k => spec_l22Laying.f k (n : Int) kk) ⟨(layR kk n).toArray⟩ := by
  unfold spec_l22Laying.f
  rw [w64 (x := (n : Int) - 1) (by omega) (by omega)]
  have := spec_lay_l0 kk n [] hn (by simp; omega)
  simpa using this
theorem part_eq (n : Nat) (kk : Int) : ∀ i, i ≤ n → impl_bestLaying.part n kk i = (List.range i).map (impl_bestLaying.bit n kk) ++ List.replicate (n - i) 0
  | 0, _ => by simp [impl_bestLaying.part]
  | i + 1, h => by
    rw [impl_bestLaying.part, part_eq n kk i (by omega), show n - i = (n - (i + 1)) + 1 by omega, set_fill _ _ _ _ _ (by simp), List.range_succ, List.map_append]
    rfl
theorem bit_succ (n : Nat) (kk : Int) (i : Nat) : impl_bestLaying.bit (n + 1) kk (i + 1) = impl_bestLaying.bit n kk i := by
  unfold impl_bestLaying.bit impl_bestLaying.bx
  rw [show ((n + 1 : Nat) : Int) - 1 - ((i + 1 : Nat) : Int) = (n : Int) - 1 - (i : Int) by omega]
theorem bits_lay (kk : Int) : ∀ n, ((List.range n).map (impl_bestLaying.bit n kk)).map (fun m => UInt8.ofNat m.toNat) = layR kk n
  | 0 => rfl
  | n + 1 => by
    rw [List.range_succ_eq_map, List.map_cons, List.map_cons, List.map_map, layR]
    have e : (impl_bestLaying.bit (n + 1) kk ∘ Nat.succ) = impl_bestLaying.bit n kk := funext (bit_succ n kk)
    have e2 : List.map ((fun m : Int => UInt8.ofNat m.toNat) ∘ impl_bestLaying.bit (n + 1) kk) (List.map Nat.succ (List.range n)) = layR kk n := by
      rw [← bits_lay kk n, ← e, List.map_map, List.map_map]
      rfl
    rw [e2]
    congr 1
    unfold impl_bestLaying.bit impl_bestLaying.bx
    rw [show ((n + 1 : Nat) : Int) - 1 - ((0 : Nat) : Int) = (n : Int) by omega]
    split <;> rfl
theorem lay_eq (n : Nat) (kk : Int) : impl_bestLaying.lay n kk = ⟨(layR kk n).toArray⟩ := by
  apply ba_ext
  unfold impl_bestLaying.lay
  rw [strOfNums_data, part_eq n kk n (Nat.le_refl _), Nat.sub_self, List.replicate_zero, List.append_nil, bits_lay]
theorem and_one (x : Int) : Go.bits .and .i64 x 1 = 0 ∨ Go.bits .and .i64 x 1 = 1 := by
  have h : ((BitVec.ofInt IntKind.i64.bits x) &&& (BitVec.ofInt IntKind.i64.bits 1)).toNat = (BitVec.ofInt IntKind.i64.bits x).toNat % 2 := by
    rw [BitVec.toNat_and, show (BitVec.ofInt IntKind.i64.bits 1).toNat = 1 from rfl, Nat.and_one_is_mod]
  have e : Go.bits .and .i64 x 1 = IntKind.i64.wrap (((BitVec.ofInt IntKind.i64.bits x) &&& (BitVec.ofInt IntKind.i64.bits 1)).toNat : Int) := rfl
  rw [e, h]
  rcases Nat.mod_two_eq_zero_or_one (BitVec.ofInt IntKind.i64.bits x).toNat with g | g <;> rw [g]
  · left; rfl
  · right; rfl
theorem okB_ev (n : Nat) (kk : Int) : impl_bestLaying.okB n kk = true := by
  unfold impl_bestLaying.okB
  rw [List.all_eq_true]
  intro i _
  unfold impl_bestLaying.bx
  rcases and_one (shr .i64 kk ((n : Int) - 1 - (i : Int))) with e | e <;> rw [e] <;> rfl
/-! rulerOk -/
def rulerB (l : List Int) : Bool := decide (1 ≤ l.length ∧ l.length ≤ 10) && l.all (fun x => decide (1 ≤ x ∧ x ≤ 50))
theorem spec_ruler_l0 (l : List Int) (hn : l.length ≤ 10) : ∀ (d i : Nat), i + d = l.length → Ev (fun k => spec_RulerOk.l0 k l (l.length : Int) (i : Int)) ((l.drop i).all (fun x => decide (1 ≤ x ∧ x ≤ 50))) := by
  intro d
  induction d with
  | zero =>
    intro i hi
    refine Ev.step (fun k => by rw [spec_RulerOk.l0]) ?_
    refine evF (by omega) ?_
    rw [List.drop_of_length_le (by omega)]
    exact evSome _
  | succ d ih =>
    intro i hi
    refine Ev.step (fun k => by rw [spec_RulerOk.l0]) ?_
    refine evT (by omega) (evT (by omega) (evT (by omega) ?_))
    rw [take_drop_en (by omega : i < l.length), List.all_cons]
    refine evB (l01In_eq _ _ _) ?_
    by_cases c : 1 ≤ rd l (i : Int) ∧ rd l (i : Int) ≤ 50
    · refine evT (decide_eq_true c) ?_
      rw [decide_eq_true c, Bool.true_and, w64s i (by omega)]
      exact ih (i + 1) (by omega)
    · refine evF (by rw [decide_eq_false c]; decide) ?_
      rw [decide_eq_false c, Bool.false_and]
      exact evSome _
theorem spec_ruler_ev (l : List Int) : Ev (fun k => spec_RulerOk.f k l) (rulerB l) := by
  unfold spec_RulerOk.f rulerB
  refine evB (l01In_eq _ _ _) ?_
  by_cases c : 1 ≤ l.length ∧ l.length ≤ 10
  · refine evT (decide_eq_true (by omega)) ?_
    rw [decide_eq_true c, Bool.true_and]
    have := spec_ruler_l0 l (by omega) l.length 0 (by omega)
    simpa using this
  · refine evF (by rw [decide_eq_false (by omega)]; decide) ?_
    rw [decide_eq_false c, Bool.false_and]
    exact evSome _
theorem impl_ruler_eq (l : List Int) : impl_RulerOk.f l = some (rulerB l) := by
  unfold impl_RulerOk.f rulerB impl_areWithin.f
  have e : impl_areWithin.ok 1 50 = fun x => decide (1 ≤ x ∧ x ≤ 50) := by funext x; unfold impl_areWithin.ok; rw [Bool.decide_and]
  by_cases c : 1 ≤ l.length
  · rw [if_pos (by omega)]
    by_cases c2 : l.length ≤ 10
    · rw [if_pos (by omega), decide_eq_true ⟨c, c2⟩, Bool.true_and, e]; rfl
    · rw [if_neg (by omega), decide_eq_false (by omega), Bool.false_and]
  · rw [if_neg (by omega), decide_eq_false (by omega), Bool.false_and]
theorem rulerB_t {l : List Int} (h : rulerB l = true) : (1 ≤ l.length ∧ l.length ≤ 10) ∧ ∀ x ∈ l, 1 ≤ x ∧ x ≤ 50 := by
  unfold rulerB at h
  rw [Bool.and_eq_true, decide_eq_true_eq, List.all_eq_true] at h
  exact ⟨h.1, fun x hx => of_decide_eq_true (h.2 x hx)⟩
/-! rulerBest -/
def blR (l : List Int) : Nat → Int → ByteArray → Int → ByteArray × Int
  | 0, _, b, m => (b, m)
  | d + 1, kk, b, m => if m < 0 ∨ roomR l (layR kk l.length) < m then blR l d (kk + 1) ⟨(layR kk l.length).toArray⟩ (roomR l (layR kk l.length)) else blR l d (kk + 1) b m
def InvR (l : List Int) (b : ByteArray) (m : Int) : Prop := ∃ bs : List UInt8, bs.length = l.length ∧ b = ⟨bs.toArray⟩ ∧ m = roomR l bs
theorem blR_inv (l : List Int) : ∀ (d : Nat) (kk : Int) (b : ByteArray) (m : Int), InvR l b m → InvR l (blR l d kk b m).1 (blR l d kk b m).2
  | 0, _, _, _, h => h
  | d + 1, kk, b, m, h => by
    rw [blR]
    split
    · exact blR_inv l d _ _ _ ⟨_, layR_len kk _, rfl, rfl⟩
    · exact blR_inv l d _ _ _ h
theorem blR_start (l : List Int) (d : Nat) (hd : 0 < d) (b : ByteArray) : InvR l (blR l d 0 b (-1)).1 (blR l d 0 b (-1)).2 := by
  obtain ⟨d, rfl⟩ : ∃ e, d = e + 1 := ⟨d - 1, by omega⟩
  rw [blR, if_pos (.inl (by omega))]
  exact blR_inv l d _ _ _ ⟨_, layR_len 0 _, rfl, rfl⟩
theorem shlR (n : Nat) (h : n ≤ 10) : shl .i64 1 (n : Int) = ((2 ^ n : Nat) : Int) := by
  rcases n with _ | _ | _ | _ | _ | _ | _ | _ | _ | _ | _ | n <;> first | omega | decide
theorem pow10 (n : Nat) (h : n ≤ 10) : 1 ≤ 2 ^ n ∧ 2 ^ n ≤ 1024 := ⟨Nat.one_le_two_pow, by simpa using Nat.pow_le_pow_right (n := 2) (by omega) h⟩
theorem enR_len : ∀ (l : List Int) (bs : List UInt8) (a : Int), (enR l bs a).length ≤ l.length
  | [], _, _ => by simp [enR]
  | x :: l, [], _ => by simp [enR]
  | x :: l, b :: bs, a => by rw [enR, List.length_cons, List.length_cons]; have := enR_len l bs (if b = 114 then a + x else a - x); omega
theorem room_w (l : List Int) (bs : List UInt8) (hl : ∀ x ∈ l, 1 ≤ x ∧ x ≤ 50) (hn : l.length ≤ 10) : wrap64 (mxL 0 (enR l bs 0) - mnL 0 (enR l bs 0)) = roomR l bs := by
  have := roomR_bd l bs hl hn
  exact w64 (x := roomR l bs) (by omega) (by omega)
theorem spec_best_l0 (l : List Int) (hl : ∀ x ∈ l, 1 ≤ x ∧ x ≤ 50) (hn : l.length ≤ 10) : ∀ (d : Nat) (kk : Nat) (b : ByteArray) (m : Int), kk + d = 2 ^ l.length → Ev (fun k => spec_BestLaying.l0 k l b m (kk : Int)) (blR l d (kk : Int) b m).1 := by
  have hp := pow10 l.length hn
  intro d
  induction d with
  | zero =>
    intro kk b m hk
    refine Ev.step (fun k => by rw [spec_BestLaying.l0, shlR l.length hn]) ?_
    exact evF (by omega) (evSome _)
  | succ d ih =>
    intro kk b m hk
    refine Ev.step (fun k => by rw [spec_BestLaying.l0, shlR l.length hn]) ?_
    refine evT (by omega) ?_
    refine Ev.bind (spec_lay_ev l.length (kk : Int) (by omega)) ?_
    refine Ev.bind (spec_ends_ev l _ hl hn (layR_len _ _)) ?_
    refine Ev.bind (spec_room_ev _ (by have := enR_len l (layR (kk : Int) l.length) 0; omega)) ?_
    rw [room_w l _ hl hn, w64s kk (by omega), blR]
    by_cases c : m < 0
    · rw [if_pos (.inl c)]
      exact evT c (ih (kk + 1) _ _ (by omega))
    · refine evF c ?_
      by_cases c2 : roomR l (layR (kk : Int) l.length) < m
      · rw [if_pos (.inr c2)]
        exact evT c2 (ih (kk + 1) _ _ (by omega))
      · rw [if_neg (fun h => h.elim c c2)]
        exact evF c2 (ih (kk + 1) _ _ (by omega))
theorem impl_best_l0 (l : List Int) (hl : ∀ x ∈ l, 1 ≤ x ∧ x ≤ 50) (hn : l.length ≤ 10) : ∀ (d : Nat) (kk : Nat) (b : ByteArray) (m : Int), kk + d = 2 ^ l.length → ∃ n0, ∀ K, n0 ≤ K → ∀ f, d < f → impl_bestLaying.l0 K l f (kk : Int) b m = some (blR l d (kk : Int) b m) := by
  have hp := pow10 l.length hn
  intro d
  induction d with
  | zero =>
    intro kk b m hk
    refine ⟨0, fun K _ f hf => ?_⟩
    obtain ⟨f, rfl⟩ : ∃ g, f = g + 1 := ⟨f - 1, by omega⟩
    rw [impl_bestLaying.l0, shlR l.length hn, if_neg (by omega)]
    rfl
  | succ d ih =>
    intro kk b m hk
    obtain ⟨n1, h1⟩ := impl_ends_ev l (layR (kk : Int) l.length) hl hn (layR_len _ _)
    obtain ⟨n2, h2⟩ := impl_room_ev (enR l (layR (kk : Int) l.length) 0) (by have := enR_len l (layR (kk : Int) l.length) 0; omega)
    by_cases c : m < 0 ∨ roomR l (layR (kk : Int) l.length) < m
    · obtain ⟨n3, h3⟩ := ih (kk + 1) ⟨(layR (kk : Int) l.length).toArray⟩ (roomR l (layR (kk : Int) l.length)) (by omega)
      refine ⟨n1 + n2 + n3, fun K hK f hf => ?_⟩
      obtain ⟨f, rfl⟩ : ∃ g, f = g + 1 := ⟨f - 1, by omega⟩
      have e1 := h1 K (by omega)
      have e2 := h2 K (by omega)
      simp only at e1 e2
      rw [impl_bestLaying.l0, shlR l.length hn, if_pos (by omega), if_pos (okB_ev _ _), lay_eq, e1, Option.bind_some, e2, Option.bind_some, room_w l _ hl hn, if_pos c, blR, if_pos c]
      exact h3 K (by omega) f (by omega)
    · obtain ⟨n3, h3⟩ := ih (kk + 1) b m (by omega)
      refine ⟨n1 + n2 + n3, fun K hK f hf => ?_⟩
      obtain ⟨f, rfl⟩ : ∃ g, f = g + 1 := ⟨f - 1, by omega⟩
      have e1 := h1 K (by omega)
      have e2 := h2 K (by omega)
      simp only at e1 e2
      rw [impl_bestLaying.l0, shlR l.length hn, if_pos (by omega), if_pos (okB_ev _ _), lay_eq, e1, Option.bind_some, e2, Option.bind_some, room_w l _ hl hn, if_neg c, blR, if_neg c]
      exact h3 K (by omega) f (by omega)
def bestR (l : List Int) : ByteArray × Int := blR l (2 ^ l.length) 0 ⟨#[]⟩ (-1)
theorem spec_best_ev (l : List Int) (h : rulerB l = true) : Ev (fun k => spec_BestLaying.f k l) (bestR l).1 := by
  obtain ⟨hn, hl⟩ := rulerB_t h
  unfold spec_BestLaying.f
  refine Ev.bind (spec_ruler_ev l) ?_
  rw [h]
  exact evT rfl (spec_best_l0 l hl hn.2 (2 ^ l.length) 0 _ _ (by omega))
theorem impl_best_ev (l : List Int) (h : rulerB l = true) : Ev (fun k => impl_bestLaying.f k l) (bestR l) := by
  obtain ⟨hn, hl⟩ := rulerB_t h
  obtain ⟨n0, h0⟩ := impl_best_l0 l hl hn.2 (2 ^ l.length) 0 ⟨#[]⟩ (-1) (by omega)
  have hp := pow10 l.length hn.2
  unfold impl_bestLaying.f
  exact evT hn.2 ⟨n0 + 2 ^ l.length + 1, fun k hk => h0 k (by omega) k (by omega)⟩
theorem bestR_inv (l : List Int) (h : rulerB l = true) : InvR l (bestR l).1 (bestR l).2 := blR_start l _ (pow10 _ (rulerB_t h).1.2).1 _
/-! rulerLine -/
theorem spec_least_ev (l : List Int) (h : rulerB l = true) : Ev (fun k => spec_LeastRoom.f k l) (bestR l).2 := by
  obtain ⟨hn, hl⟩ := rulerB_t h
  obtain ⟨bs, hb, e1, e2⟩ := bestR_inv l h
  unfold spec_LeastRoom.f
  refine Ev.bind (spec_ruler_ev l) ?_
  rw [h]
  refine evT rfl ?_
  refine Ev.bind (spec_best_ev l h) ?_
  rw [e1]
  refine Ev.bind (spec_ends_ev l bs hl hn.2 hb) ?_
  refine Ev.bind (spec_room_ev _ (by have := enR_len l bs 0; omega)) ?_
  rw [room_w l _ hl hn.2, e2]
  exact evSome _
def lineR (l : List Int) : ByteArray := if rulerB l = true then (itob (bestR l).2 ++ (⟨#[32]⟩ : ByteArray)) ++ (bestR l).1 else (⟨#[110, 111, 110, 101]⟩ : ByteArray)
theorem bestR_I64 (l : List Int) (h : rulerB l = true) : I64' (bestR l).2 ∧ (bestR l).1.size ≤ 10 := by
  obtain ⟨hn, hl⟩ := rulerB_t h
  obtain ⟨bs, hb, e1, e2⟩ := bestR_inv l h
  have := roomR_bd l bs hl hn.2
  rw [e1, e2, ba_size]
  exact ⟨⟨by omega, by omega⟩, by omega⟩
theorem appSz (a b : ByteArray) : (a ++ b).size = a.size + b.size := ByteArray.size_append
theorem itob_sz (n : Int) (h : I64' n) : (itob n).size ≤ 20 := by unfold itob; rw [ba_size]; exact itoa_len n h
theorem spec_rline_ev (l : List Int) : Ev (fun k => spec_RulerLine.f k l) (lineR l) := by
  unfold spec_RulerLine.f lineR
  refine Ev.bind (spec_ruler_ev l) ?_
  by_cases h : rulerB l = true
  · obtain ⟨hi, hs⟩ := bestR_I64 l h
    have h20 := itob_sz _ hi
    rw [if_pos h]
    refine evT h ?_
    refine Ev.bind (spec_least_ev l h) ?_
    refine Ev.bind (spec_fmt_ev _ hi) ?_
    refine evT (by omega) ?_
    refine Ev.bind (spec_best_ev l h) ?_
    refine evT (by rw [appSz, show (⟨#[32]⟩ : ByteArray).size = 1 from rfl]; omega) ?_
    exact evSome _
  · rw [if_neg h]
    exact evF h (evSome _)
theorem impl_rline_ev (l : List Int) : Ev (fun k => impl_RulerLine.f k l) (lineR l) := by
  unfold impl_RulerLine.f lineR
  refine evB (impl_ruler_eq l) ?_
  by_cases h : rulerB l = true
  · obtain ⟨hi, hs⟩ := bestR_I64 l h
    have h20 := itob_sz _ hi
    rw [if_pos h]
    refine evT h ?_
    have hL : Ev (fun k => impl_LeastRoom.f k l) (bestR l).2 := by
      unfold impl_LeastRoom.f
      refine evB (impl_ruler_eq l) (evT h ?_)
      exact Ev.bind (impl_best_ev l h) (evSome _)
    have hB : Ev (fun k => impl_BestLaying.f k l) (bestR l).1 := by
      unfold impl_BestLaying.f
      refine evB (impl_ruler_eq l) (evT h ?_)
      exact Ev.bind (impl_best_ev l h) (evSome _)
    refine Ev.bind hL ?_
    refine evB (impl_fmt _ hi) ?_
    refine evT (by omega) ?_
    refine Ev.bind hB ?_
    refine evT (by rw [appSz, show (⟨#[32]⟩ : ByteArray).size = 1 from rfl]; omega) ?_
    exact evSome _
  · rw [if_neg h]
    exact evF h (evSome _)

theorem FnExactRulerLine : ∀ (l0 : List (Int)), (l0.length ≤ 9223372036854775807 ∧ ∀ x ∈ l0, Opens.I64 x) → ∃ k, laws_FnExactRulerLine.f k l0 = some true := by
  intro l0 g0
  refine Ev.rounds (g := fun k => laws_FnExactRulerLine.f k l0) ?_
  unfold laws_FnExactRulerLine.f
  by_cases hb : (l0.length : Int) > 1048576
  · exact evT hb (evSome _)
  · refine evF hb ?_
    have hT := toIntS_ev l0 (by omega)
    refine Ev.bind hT ?_
    refine Ev.bind (spec_rline_ev l0) ?_
    refine Ev.bind hT ?_
    refine Ev.bind (impl_rline_ev l0) ?_
    refine evT rfl ?_
    refine Ev.bind hT ?_
    refine Ev.bind (eqIntS_ev _ (by omega)) ?_
    exact evT rfl (evSome _)

end Go.Proofs.YtpmpcaahbhdiiaaDoor.Pure
