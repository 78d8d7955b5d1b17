/- FnExactFormatPoints: for every list of points, FormatPoints of the program and of the reference answer alike and leave the list as it is. No condition. -/
import Derived.Test.YtpmpcaahbhdiiaaDoorQFnExactFormatPointsx3
import Derived.Test.YtpmpcaahbhdiiaaDoorOpens
namespace Go.Proofs.YtpmpcaahbhdiiaaDoor.Pure
open Go.RowKit Go.Proofs.YtpmpcaahbhdiiaaDoor Go.Proofs.YtpmpcaahbhdiiaaDoor.QFnExactFormatPoints Go.Proofs.YtpmpcaahbhdiiaaDoorW.PrintWords Go.Proofs.YtpmpcaahbhdiiaaDoorW.PrintLast
set_option linter.unusedVariables false
set_option linter.unusedSimpArgs false

/-! base -/
theorem w64 {x : Int} (h0 : -9223372036854775808 ≤ x) (h1 : x ≤ 9223372036854775807) : wrap64 x = x := by unfold wrap64; omega
theorem w64n (n : Nat) (h : n ≤ 9223372036854775807) : wrap64 (n : Int) = n := w64 (by omega) (by omega)
theorem w64s (n : Nat) (h : n < 9223372036854775807) : wrap64 ((n : Int) + 1) = ((n + 1 : Nat) : Int) := by rw [w64 (by omega) (by omega)]; omega
theorem evSome {α : Type} (r : α) : Ev (fun _ : Nat => some r) r := ⟨0, fun _ _ => rfl⟩
theorem evOf {α : Type} {f : Option α} {r : α} (h : f = some r) : Ev (fun _ : Nat => f) r := ⟨0, fun _ _ => h⟩
theorem evUniq {α : Type} {g : Nat → Option α} {r q : α} (h : Ev g r) (k : Ev g q) : r = q := by
  obtain ⟨a, ha⟩ := h
  obtain ⟨b, hb⟩ := k
  have h1 := ha (a + b) (by omega)
  rw [hb (a + b) (by omega)] at h1
  exact (Option.some.inj h1).symm
theorem evIf {α : Type} {c : Prop} [Decidable c] {f g : Nat → Option α} {r : α} (hp : c → Ev f r) (hn : ¬ c → Ev g r) : Ev (fun k => if c then f k else g k) r := by
  by_cases h : c
  · simp only [if_pos h]; exact hp h
  · simp only [if_neg h]; exact hn h
theorem evT {α : Type} {c : Prop} [Decidable c] {f g : Nat → Option α} {r : α} (h : c) (hp : Ev f r) : Ev (fun k => if c then f k else g k) r := by
  simp only [if_pos h]; exact hp
theorem evF {α : Type} {c : Prop} [Decidable c] {f g : Nat → Option α} {r : α} (h : ¬ c) (hp : Ev g r) : Ev (fun k => if c then f k else g k) r := by
  simp only [if_neg h]; exact hp
theorem evB {α β : Type} {f : Option α} {g : Nat → α → Option β} {a : α} {r : β} (h : f = some a) (k : Ev (fun n => g n a) r) : Ev (fun n => f.bind (g n)) r := by
  subst h
  exact k
theorem getD_eq {α : Type} (l : List α) (i : Nat) (z : α) (h : i < l.length) : l.getD i z = l[i] := by
  rw [List.getD_eq_getElem?_getD, List.getElem?_eq_getElem h]; rfl
theorem take_succ' {α : Type} (l : List α) (i : Nat) (h : i < l.length) : l.take (i + 1) = l.take i ++ [l[i]] := by
  rw [List.take_succ_eq_append_getElem h]
theorem set_fill {α : Type} (l : List α) (z x : α) (i d : Nat) (hi : l.length = i) : (l ++ List.replicate (d + 1) z).set i x = l ++ [x] ++ List.replicate d z := by
  subst hi
  rw [List.set_append_right _ _ (Nat.le_refl _), Nat.sub_self, List.replicate_succ, List.set_cons_zero, List.append_assoc]
  rfl
theorem drop_cons {α : Type} (l : List α) (i : Nat) (h : i < l.length) : l.drop i = l[i] :: l.drop (i + 1) := List.drop_eq_getElem_cons h
/-! down -/
theorem down {P : Nat → Prop} (n : Nat) (h0 : P n) (hs : ∀ i, i < n → P (i + 1) → P i) : ∀ i, i ≤ n → P i := by
  intro i hi
  obtain ⟨d, hd⟩ : ∃ d, i + d = n := ⟨n - i, by omega⟩
  induction d generalizing i with
  | zero => have : i = n := by omega
            subst this; exact h0
  | succ d ih => exact hs i (by omega) (ih (i + 1) (by omega) (by omega))
/-! rdLP -/
theorem rdLP (l : List S53) (i : Nat) (h : i < l.length) : rd_T53 l (i : Int) = l[i] := by
  unfold rd_T53; rw [show ((i : Int)).toNat = i from by omega]; exact getD_eq _ _ _ h
/-! conv -/
def conv (l : List S53) : List S51 := l.map (fun p => ⟨p.f0, p.f1⟩)
theorem conv_length (l : List S53) : (conv l).length = l.length := by simp [conv]
theorem conv_take_succ (l : List S53) (i : Nat) (h : i < l.length) : conv (l.take (i + 1)) = conv (l.take i) ++ [(⟨l[i].f0, l[i].f1⟩ : S51)] := by
  simp only [conv, take_succ' l i h, List.map_append, List.map_cons, List.map_nil]
/-! laws_toPointS -/
theorem toPointS_l0 (l : List S53) (hl : l.length ≤ 9223372036854775806) : ∀ i, i ≤ l.length → Ev (fun k => laws_toPointS.l0 k l (conv (l.take i) ++ List.replicate (l.length - i) z51) (i : Int)) (conv l) := by
  refine down l.length ?_ ?_
  · refine Ev.step (fun k => by rw [laws_toPointS.l0]) ?_
    refine evF (by omega) ?_
    have : conv (l.take l.length) ++ List.replicate (l.length - l.length) z51 = conv l := by rw [List.take_length, Nat.sub_self]; simp
    rw [this]
    exact evSome _
  · intro i hi ih
    refine Ev.step (fun k => by rw [laws_toPointS.l0]) ?_
    refine evT (by omega) (evT (by omega) (evB rfl (evT (by simp [conv]; omega) ?_)))
    rw [w64s i (by omega), rdLP l i hi, show l.length - i = (l.length - (i + 1)) + 1 by omega, show ((i : Int)).toNat = i from by omega, set_fill _ _ _ _ _ (by simp [conv]; omega), ← conv_take_succ l i hi]
    exact ih
theorem toPointS_ev (l : List S53) (hl : l.length ≤ 1048576) : Ev (fun k => laws_toPointS.f k l) (conv l) := by
  unfold laws_toPointS.f
  refine evT (by omega) (evT (by omega) ?_)
  have h := toPointS_l0 l (by omega) 0 (by omega)
  simpa [conv] using h
/-! laws_szPointS -/
theorem szPointS_ev (l : List S53) (a : Int) (ha : 0 ≤ a) (ha2 : a ≤ 1048576) (hl : l.length ≤ 9223372036854775807) : (laws_szPointS.f l a = some (-1)) ∨ (laws_szPointS.f l a = some (a - l.length) ∧ 0 ≤ a - (l.length : Int)) := by
  unfold laws_szPointS.f
  rw [w64 (x := a - (l.length : Int)) (by omega) (by omega)]
  by_cases h : a - (l.length : Int) < 0
  · exact .inl (if_pos h)
  · exact .inr ⟨if_neg h, by omega⟩
/-! laws_eqPointS -/
theorem eqPoint_same (x y : Int) : laws_eqPoint.f x y x y = some true := by unfold laws_eqPoint.f; rw [if_pos rfl, if_pos rfl]
theorem eqPointS_l0 (l : List S51) (hl : l.length ≤ 9223372036854775806) : ∀ i, i ≤ l.length → Ev (fun k => laws_eqPointS.l0 k l l (i : Int)) true := by
  refine down l.length ?_ ?_
  · refine Ev.step (fun k => by rw [laws_eqPointS.l0]) ?_
    exact evF (by omega) (evSome _)
  · intro i hi ih
    refine Ev.step (fun k => by rw [laws_eqPointS.l0]) ?_
    refine evT (by omega) (evT (by omega) (evT (by omega) (evB (eqPoint_same _ _) (evT rfl ?_))))
    rw [w64s i (by omega)]
    exact ih
theorem eqPointS_ev (l : List S51) (hl : l.length ≤ 1048576) : Ev (fun k => laws_eqPointS.f k l l) true := by
  unfold laws_eqPointS.f
  exact evT rfl (by simpa using eqPointS_l0 l (by omega) 0 (by omega))
/-! fmtBase -/
def I64' (x : Int) : Prop := -9223372036854775808 ≤ x ∧ x ≤ 9223372036854775807
def itob (n : Int) : ByteArray := ⟨(Lib.itoa n).toArray⟩
theorem ba_ext {a b : ByteArray} (h : a.data.toList = b.data.toList) : a = b := by
  obtain ⟨⟨a⟩⟩ := a
  obtain ⟨⟨b⟩⟩ := b
  exact congrArg (fun l => (⟨⟨l⟩⟩ : ByteArray)) h
theorem ba_size (l : List UInt8) : (⟨l.toArray⟩ : ByteArray).size = l.length := by show l.toArray.size = _; exact List.size_toArray
theorem ba_size' (b : ByteArray) : b.size = b.data.toList.length := by rw [Array.length_toList]; rfl
theorem ba_app (a b : List UInt8) : (⟨a.toArray⟩ : ByteArray) ++ (⟨b.toArray⟩ : ByteArray) = ⟨(a ++ b).toArray⟩ := by
  apply ba_ext
  rw [ByteArray.data_append, Array.toList_append]
theorem ba_app_l (a b : ByteArray) : (a ++ b).data.toList = a.data.toList ++ b.data.toList := by rw [ByteArray.data_append, Array.toList_append]
theorem itob_data (n : Int) : (itob n).data.toList = Lib.itoa n := rfl
theorem one_num (d : Nat) (h : d < 10) : strOfNums [((48 + d : Nat) : Int)] = ⟨([UInt8.ofNat (48 + d)] : List UInt8).toArray⟩ := by
  apply ba_ext
  rw [strOfNums_data, List.map_cons, List.map_nil, Int.toNat_natCast]
theorem dec_len : ∀ (k u : Nat), 1 ≤ k → u < 10 ^ k → (Lib.decDigits u).length ≤ k
  | 0, u, h, _ => by omega
  | k + 1, u, _, h => by
    rw [Lib.decDigits]
    split
    · simp
    · rename_i h9
      rw [List.length_append, List.length_singleton]
      have hk : 1 ≤ k := by
        cases k with
        | zero => simp at h; omega
        | succ k => omega
      have := dec_len k (u / 10) hk (by rw [Nat.pow_succ] at h; omega)
      omega
theorem itoa_len (n : Int) (h : I64' n) : (Lib.itoa n).length ≤ 20 := by
  unfold I64' at h
  unfold Lib.itoa
  split
  · have := dec_len 19 n.natAbs (by decide) (by omega)
    rw [List.length_cons]; omega
  · have := dec_len 19 n.toNat (by decide) (by omega)
    omega
/-! fmtInt -/
theorem one_ch (u : Nat) (h9 : u < 10) : (wrap64 (48 + (u : Int))) % 256 = ((48 + u : Nat) : Int) := by rw [w64 (by omega) (by omega)]; omega
theorem fmt_l0 : ∀ (m : Nat) (u : Nat) (acc : List UInt8), u < 10 ^ (m + 1) → acc.length + m ≤ 1000 → u < 9223372036854775808 → Ev (fun k => spec_FormatInt.l0 k (u : Int) ⟨acc.toArray⟩) ⟨(Lib.decDigits u ++ acc).toArray⟩ := by
  intro m
  induction m with
  | zero =>
    intro u acc hu h2 h1
    have h9 : u < 10 := by simpa using hu
    refine Ev.step (fun k => by rw [spec_FormatInt.l0]) ?_
    refine evF (by omega) ?_
    rw [one_ch u h9]
    refine evB rfl ?_
    rw [one_num u h9]
    refine evT (by rw [ba_size, ba_size]; simp; omega) ?_
    rw [ba_app, Lib.decDigits, dif_pos h9]
    exact evSome _
  | succ m ih =>
    intro u acc hu h2 h1
    refine Ev.step (fun k => by rw [spec_FormatInt.l0]) ?_
    by_cases h9 : u < 10
    · refine evF (by omega) ?_
      rw [one_ch u h9]
      refine evB rfl ?_
      rw [one_num u h9]
      refine evT (by rw [ba_size, ba_size]; simp; omega) ?_
      rw [ba_app, Lib.decDigits, dif_pos h9]
      exact evSome _
    · refine evT (by omega) ?_
      have e0 : Int.tmod (u : Int) 10 = ((u % 10 : Nat) : Int) := by rw [Int.tmod_eq_emod_of_nonneg (by omega)]; omega
      have e1 : Int.tdiv (u : Int) 10 = ((u / 10 : Nat) : Int) := by rw [Int.tdiv_eq_ediv_of_nonneg (by omega)]; omega
      rw [e0, e1, one_ch _ (by omega), w64 (x := ((u / 10 : Nat) : Int)) (by omega) (by omega)]
      refine evB rfl ?_
      rw [one_num (u % 10) (by omega)]
      refine evT (by rw [ba_size, ba_size]; simp; omega) ?_
      rw [ba_app]
      have := ih (u / 10) ([UInt8.ofNat (48 + u % 10)] ++ acc) (by rw [Nat.pow_succ] at hu; omega) (by simp; omega) (by omega)
      rw [Lib.decDigits, dif_neg h9, List.append_assoc]
      exact this
theorem fmt_neg : ∀ (m : Nat) (u : Nat), 1 ≤ u → u < 10 ^ (m + 1) → u ≤ 9223372036854775808 → m ≤ 30 → Ev (fun k => spec_FormatInt.f k (-(u : Int))) ⟨(45 :: Lib.decDigits u).toArray⟩ := by
  intro m
  induction m with
  | zero =>
    intro u h0 hu h1 hm
    have h9 : u < 10 := by simpa using hu
    refine Ev.step (fun k => by rw [spec_FormatInt.f]) ?_
    refine evT (by omega) ?_
    have e1 : Int.tdiv (-(u : Int)) 10 = 0 := by rw [Int.neg_tdiv, Int.tdiv_eq_ediv_of_nonneg (by omega)]; omega
    rw [e1]
    refine evT (w64 (by omega) (by omega)) ?_
    have e : (48 - (-(u : Int))) = 48 + (u : Int) := by omega
    rw [e, one_ch u h9]
    refine evB rfl ?_
    rw [one_num u h9]
    refine evT (by rw [ba_size]; simp) ?_
    rw [Lib.decDigits, dif_pos h9]
    exact evSome _
  | succ m ih =>
    intro u h0 hu h1 hm
    refine Ev.step (fun k => by rw [spec_FormatInt.f]) ?_
    refine evT (by omega) ?_
    have e1 : Int.tdiv (-(u : Int)) 10 = -((u / 10 : Nat) : Int) := by rw [Int.neg_tdiv, Int.tdiv_eq_ediv_of_nonneg (by omega)]; omega
    have e0 : Int.tmod (-(u : Int)) 10 = -((u % 10 : Nat) : Int) := by rw [Int.neg_tmod, Int.tmod_eq_emod_of_nonneg (by omega)]; omega
    rw [e1, e0, w64 (x := -((u / 10 : Nat) : Int)) (by omega) (by omega)]
    by_cases h9 : u < 10
    · refine evT (by omega) ?_
      have e : (48 - (-(u : Int))) = 48 + (u : Int) := by omega
      rw [e, one_ch u h9]
      refine evB rfl ?_
      rw [one_num u h9]
      refine evT (by rw [ba_size]; simp) ?_
      rw [Lib.decDigits, dif_pos h9]
      exact evSome _
    · refine evF (by omega) ?_
      refine Ev.bind (ih (u / 10) (by omega) (by rw [Nat.pow_succ] at hu; omega) (by omega) (by omega)) ?_
      have e : (48 - (-((u % 10 : Nat) : Int))) = 48 + ((u % 10 : Nat) : Int) := by omega
      rw [e, one_ch _ (by omega)]
      refine evB rfl ?_
      rw [one_num (u % 10) (by omega)]
      have hl := dec_len (m + 1) (u / 10) (by omega) (by rw [Nat.pow_succ] at hu; omega)
      refine evT (by rw [ba_size, ba_size]; simp; omega) ?_
      rw [ba_app]
      have e3 : Lib.decDigits u = Lib.decDigits (u / 10) ++ [UInt8.ofNat (48 + u % 10)] := by rw [Lib.decDigits, dif_neg h9]
      rw [e3, ← List.cons_append]
      exact evSome _
theorem spec_fmt_ev (n : Int) (h : I64' n) : Ev (fun k => spec_FormatInt.f k n) (itob n) := by
  unfold I64' at h
  unfold itob Lib.itoa
  by_cases h0 : n < 0
  · rw [if_pos h0]
    have := fmt_neg 18 n.natAbs (by omega) (by omega) (by omega) (by omega)
    rwa [show -((n.natAbs : Nat) : Int) = n by omega] at this
  · rw [if_neg h0]
    refine Ev.step (fun k => by rw [spec_FormatInt.f]) ?_
    refine evF h0 ?_
    have := fmt_l0 18 n.toNat [] (by omega) (by simp) (by omega)
    rwa [show ((n.toNat : Nat) : Int) = n by omega, List.append_nil] at this
/-! fmtImpl -/
theorem impl_fmt (n : Int) (h : I64' n) : impl_FormatInt.f n = some (itob n) := by
  unfold impl_FormatInt.f
  exact if_pos h
/-! joinBase -/
theorem join_len (xs : List (List UInt8)) (sep : List UInt8) (h : ∀ x ∈ xs, x.length ≤ 100000) (hs : sep.length ≤ 100000) : (Lib.join xs sep).length ≤ 200000 * xs.length := by
  cases xs with
  | nil => simp [Lib.join]
  | cons x r =>
    rw [Lib.join_cons, List.length_append, Lib.joinTail_length, List.length_cons]
    have h1 : Lib.lens r ≤ 100000 * r.length := by
      have hr : ∀ y ∈ r, y.length ≤ 100000 := fun y hy => h y (List.mem_cons_of_mem _ hy)
      clear h
      induction r with
      | nil => simp [Lib.lens]
      | cons y r ih =>
        have := ih (fun z hz => hr z (List.mem_cons_of_mem _ hz))
        have h2 := hr y List.mem_cons_self
        unfold Lib.lens at this ⊢
        simp only [List.map_cons, List.sum_cons, List.length_cons]
        omega
    have h2 := h x List.mem_cons_self
    have h3 : sep.length * r.length ≤ 100000 * r.length := Nat.mul_le_mul_right _ hs
    omega
theorem join_snoc (xs : List (List UInt8)) (sep y : List UInt8) (h : xs ≠ []) : Lib.join (xs ++ [y]) sep = Lib.join xs sep ++ sep ++ y := by
  cases xs with
  | nil => exact absurd rfl h
  | cons x r =>
    rw [List.cons_append, Lib.join_cons, Lib.join_cons]
    simp [Lib.joinTail]
/-! joinSpec -/
def joinB (l : List ByteArray) (sep : ByteArray) : ByteArray := ⟨(Lib.join (l.map (·.data.toList)) sep.data.toList).toArray⟩
theorem joinB_one (x sep : ByteArray) : joinB [x] sep = x := by
  apply ba_ext
  simp [joinB, Lib.join_one]
theorem joinB_snoc (l : List ByteArray) (sep x : ByteArray) (h : l ≠ []) : joinB (l ++ [x]) sep = joinB l sep ++ sep ++ x := by
  apply ba_ext
  unfold joinB
  rw [List.map_append, List.map_cons, List.map_nil, join_snoc _ _ _ (by simpa using h)]
  simp
theorem joinB_size (l : List ByteArray) (sep : ByteArray) (h : ∀ x ∈ l, x.size ≤ 100000) (hs : sep.size ≤ 100000) : (joinB l sep).size ≤ 200000 * l.length := by
  unfold joinB
  rw [ba_size]
  have := join_len (l.map (·.data.toList)) sep.data.toList (by
    intro x hx
    obtain ⟨y, hy, rfl⟩ := List.mem_map.1 hx
    have := h y hy
    rwa [ba_size'] at this) (by rwa [ba_size'] at hs)
  simpa using this
theorem join_l0 (l : List ByteArray) (sep : ByteArray) (h : ∀ x ∈ l, x.size ≤ 100000) (hs : sep.size ≤ 100000) (hl : l.length ≤ 1000000) : ∀ d i : Nat, i + d = l.length → Ev (fun k => spec_Join.l0 k sep (joinB (l.take i) sep) l (l.length : Int) (i : Int)) (joinB l sep) := by
  intro d
  induction d with
  | zero =>
    intro i hi
    refine Ev.step (fun k => by rw [spec_Join.l0]) ?_
    refine evF (by omega) ?_
    rw [List.take_of_length_le (by omega)]
    exact evSome _
  | succ d ih =>
    intro i hi
    have hr : rdOf ByteArray.empty l (i : Int) = l[i] := by unfold rdOf; rw [show ((i : Int)).toNat = i from by omega]; exact getD_eq _ _ _ (by omega)
    have hz := joinB_size (l.take i) sep (fun x hx => h x (List.mem_of_mem_take hx)) hs
    rw [List.length_take] at hz
    have hx := h l[i] (List.getElem_mem _)
    have hs1 : (joinB (l.take i) sep ++ sep).size = (joinB (l.take i) sep).size + sep.size := ByteArray.size_append
    have ih' := ih (i + 1) (by omega)
    refine Ev.step (fun k => by rw [spec_Join.l0]) ?_
    refine evT (by omega) (evT (by omega) (evT (by omega) ?_))
    rw [hr, w64s i (by omega)]
    rw [take_succ' l i (by omega)] at ih'
    by_cases h0 : i = 0
    · subst h0
      refine evF (by omega) ?_
      have e0 : joinB (List.take 0 l) sep = ByteArray.empty := rfl
      have e1 : List.take 0 l = [] := rfl
      rw [e1, List.nil_append, joinB_one] at ih'
      rw [e0] at hz ⊢
      refine evT (by rw [ByteArray.size_empty]; omega) ?_
      rw [ByteArray.empty_append]
      exact ih'
    · have hne : l.take i ≠ [] := by
        intro e
        have := congrArg List.length e
        rw [List.length_take, List.length_nil] at this
        omega
      rw [joinB_snoc _ _ _ hne] at ih'
      exact evT (by omega) (evT (by omega) (evT (by omega) ih'))
theorem spec_join_ev (l : List ByteArray) (sep : ByteArray) (h : ∀ x ∈ l, x.size ≤ 100000) (hs : sep.size ≤ 100000) (hl : l.length ≤ 1000000) : Ev (fun k => spec_Join.f k l sep) (joinB l sep) := by
  unfold spec_Join.f
  exact join_l0 l sep h hs hl l.length 0 (by omega)
/-! joinImpl -/
theorem impl_join (l : List ByteArray) (sep : ByteArray) (h : ∀ x ∈ l, x.size ≤ 100000) (hs : sep.size ≤ 100000) (hl : l.length ≤ 1000000) : impl_Join.f l sep = some (joinB l sep) := by
  have hz := joinB_size l sep h hs
  have h1 : strings_Join.f l sep = some (joinB l sep) := by
    unfold strings_Join.f
    unfold joinB at hz
    rw [ba_size] at hz
    exact if_pos ⟨by omega, by omega⟩
  unfold impl_Join.f
  rw [h1]
  rfl
/-! orDash -/
def dashB (l : List ByteArray) (sep : ByteArray) : ByteArray := if l = [] then ⟨#[45]⟩ else joinB l sep
theorem impl_dash (l : List ByteArray) (sep : ByteArray) (h : ∀ x ∈ l, x.size ≤ 100000) (hs : sep.size ≤ 100000) (hl : l.length ≤ 1000000) : impl_orDash.f l sep = some (dashB l sep) := by
  unfold impl_orDash.f dashB
  by_cases h0 : l = []
  · rw [if_pos (by rw [h0]; rfl), if_pos h0]
  · have : ¬ (l.length : Int) = 0 := by
      have := List.length_pos_iff.2 h0
      omega
    rw [if_neg this, if_neg h0, impl_join l sep h hs hl]
    rfl
/-! fmtPoints -/
def ptB (p : S51) : ByteArray := (itob p.f0 ++ (⟨#[44]⟩ : ByteArray)) ++ itob p.f1
def PtI (p : S51) : Prop := I64' p.f0 ∧ I64' p.f1
def ptsB (l : List S51) : ByteArray := if 30 < l.length then ⟨#[]⟩ else dashB (l.map ptB) ⟨#[32]⟩
theorem itob_size (n : Int) (h : I64' n) : (itob n).size ≤ 20 := by
  unfold itob
  rw [ba_size]
  exact itoa_len n h
theorem ptB_size1 (p : S51) (h : PtI p) : (itob p.f0 ++ (⟨#[44]⟩ : ByteArray)).size ≤ 21 := by
  have h1 := itob_size _ h.1
  rw [ByteArray.size_append]
  have : (⟨#[44]⟩ : ByteArray).size = 1 := rfl
  omega
theorem ptB_size (p : S51) (h : PtI p) : (ptB p).size ≤ 41 := by
  have h1 := ptB_size1 p h
  have h2 := itob_size _ h.2
  unfold ptB
  rw [ByteArray.size_append]
  omega
theorem pwords_small (l : List S51) (h : ∀ x ∈ l, PtI x) : ∀ x ∈ l.map ptB, x.size ≤ 100000 := by
  intro x hx
  obtain ⟨y, hy, rfl⟩ := List.mem_map.1 hx
  have := ptB_size y (h y hy)
  omega
theorem spec_pts_l0 (l : List S51) (h : ∀ x ∈ l, PtI x) (hl : l.length ≤ 30) : ∀ d i : Nat, i + d = l.length → Ev (fun k => spec_FormatPoints.l0 k ((l.take i).map ptB) l (l.length : Int) (i : Int)) (dashB (l.map ptB) ⟨#[32]⟩) := by
  intro d
  induction d with
  | zero =>
    intro i hi
    refine Ev.step (fun k => by rw [spec_FormatPoints.l0]) ?_
    refine evF (by omega) ?_
    rw [List.take_of_length_le (by omega)]
    unfold dashB
    by_cases h0 : l = []
    · subst h0
      exact evT (by simp) (by rw [if_pos (by simp)]; exact evSome _)
    · have : ¬ ((l.map ptB).length : Int) = 0 := by
        have := List.length_pos_iff.2 h0
        rw [List.length_map]
        omega
      refine evF this ?_
      rw [if_neg (by simpa using h0)]
      exact Ev.bind (spec_join_ev _ _ (pwords_small l h) (by decide) (by rw [List.length_map]; omega)) (evSome _)
  | succ d ih =>
    intro i hi
    have hr : rd_T51 l (i : Int) = l[i] := by unfold rd_T51; rw [show ((i : Int)).toNat = i from by omega]; exact getD_eq _ _ _ (by omega)
    have ih' := ih (i + 1) (by omega)
    have hp := h _ (List.getElem_mem (show i < l.length by omega))
    have z0 := itob_size _ hp.1
    have z1 := ptB_size1 _ hp
    have z2 := itob_size _ hp.2
    rw [take_succ' l i (by omega), List.map_append, List.map_cons, List.map_nil] at ih'
    refine Ev.step (fun k => by rw [spec_FormatPoints.l0]) ?_
    refine evT (by omega) (evT (by omega) (evT (by omega) ?_))
    rw [hr, w64s i (by omega)]
    refine Ev.bind (spec_fmt_ev _ hp.1) ?_
    refine evT (by omega) ?_
    refine Ev.bind (spec_fmt_ev _ hp.2) ?_
    exact evT (by omega) (evT (by rw [List.length_map, List.length_take]; omega) ih')
theorem spec_pts_ev (l : List S51) (h : ∀ x ∈ l, PtI x) (hl : l.length ≤ 9223372036854775807) : Ev (fun k => spec_FormatPoints.f k l) (ptsB l) := by
  unfold spec_FormatPoints.f ptsB
  by_cases h40 : 30 < l.length
  · rw [if_pos h40]
    exact evT (by omega) (evSome _)
  · rw [if_neg h40]
    refine evF (by omega) ?_
    exact spec_pts_l0 l h (by omega) l.length 0 (by omega)
theorem impl_pts_l0 (l : List S51) (h : ∀ x ∈ l, PtI x) (hl : l.length ≤ 30) : ∀ d i : Nat, i + d = l.length → Ev (fun k => impl_FormatPoints.l0 k ((l.take i).map ptB) l (l.length : Int) (i : Int)) (dashB (l.map ptB) ⟨#[32]⟩) := by
  intro d
  induction d with
  | zero =>
    intro i hi
    refine Ev.step (fun k => by rw [impl_FormatPoints.l0]) ?_
    refine evF (by omega) ?_
    rw [List.take_of_length_le (by omega)]
    exact evB (impl_dash _ _ (pwords_small l h) (by decide) (by rw [List.length_map]; omega)) (evSome _)
  | succ d ih =>
    intro i hi
    have hr : rd_T51 l (i : Int) = l[i] := by unfold rd_T51; rw [show ((i : Int)).toNat = i from by omega]; exact getD_eq _ _ _ (by omega)
    have ih' := ih (i + 1) (by omega)
    have hp := h _ (List.getElem_mem (show i < l.length by omega))
    have z0 := itob_size _ hp.1
    have z1 := ptB_size1 _ hp
    have z2 := itob_size _ hp.2
    rw [take_succ' l i (by omega), List.map_append, List.map_cons, List.map_nil] at ih'
    refine Ev.step (fun k => by rw [impl_FormatPoints.l0]) ?_
    refine evT (by omega) (evT (by omega) (evT (by omega) ?_))
    rw [hr, w64s i (by omega)]
    refine evB (impl_fmt _ hp.1) ?_
    refine evT (by omega) ?_
    refine evB (impl_fmt _ hp.2) ?_
    exact evT (by omega) (evT (by rw [List.length_map, List.length_take]; omega) ih')
theorem impl_pts_ev (l : List S51) (h : ∀ x ∈ l, PtI x) (hl : l.length ≤ 9223372036854775807) : Ev (fun k => impl_FormatPoints.f k l) (ptsB l) := by
  unfold impl_FormatPoints.f ptsB
  by_cases h40 : 30 < l.length
  · rw [if_pos h40]
    exact evT (by omega) (evSome _)
  · rw [if_neg h40]
    refine evF (by omega) ?_
    exact impl_pts_l0 l h (by omega) l.length 0 (by omega)

theorem FnExactFormatPoints : ∀ (l0 : List (S53)), (l0.length ≤ 9223372036854775807 ∧ ∀ x ∈ l0, (Opens.I64 x.f0 ∧ Opens.I64 x.f1)) → ∃ k, laws_FnExactFormatPoints.f k l0 = some true := by
  intro l0 g0
  refine Ev.rounds (g := fun k => laws_FnExactFormatPoints.f k l0) ?_
  unfold laws_FnExactFormatPoints.f
  rcases szPointS_ev l0 1048576 (by omega) (by omega) g0.1 with h | ⟨h, hb⟩
  · exact evB h (evT (by omega) (evSome _))
  · have hc0 : (conv l0).length ≤ 1048576 := by rw [conv_length]; omega
    have hT := toPointS_ev l0 (by omega)
    have hi : ∀ x ∈ conv l0, PtI x := by
      intro x hx
      obtain ⟨y, hy, rfl⟩ := List.mem_map.1 hx
      exact g0.2 y hy
    refine evB h ?_
    refine evF (by omega) ?_
    refine Ev.bind hT ?_
    refine Ev.bind (spec_pts_ev _ hi (by omega)) ?_
    refine Ev.bind hT ?_
    refine Ev.bind (impl_pts_ev _ hi (by omega)) ?_
    refine evT rfl ?_
    refine Ev.bind hT ?_
    refine Ev.bind (eqPointS_ev _ hc0) ?_
    exact evT rfl (evSome _)

end Go.Proofs.YtpmpcaahbhdiiaaDoor.Pure
