/- FnExactStoreLine: for every store, StoreLine of the program and of the reference answer alike and leave the store as it is. No condition. -/
import Derived.Test.YtelhjgkjnlcomaaDoorQFnExactStoreLinex6
import Derived.Test.YtelhjgkjnlcomaaDoorOpens
namespace Go.Proofs.YtelhjgkjnlcomaaDoor.Pure
open Go.RowKit Go.Proofs.YtelhjgkjnlcomaaDoor Go.Proofs.YtelhjgkjnlcomaaDoor.QFnExactStoreLine Go.Proofs.YtelhjgkjnlcomaaDoorW.PrintWords Go.Proofs.YtelhjgkjnlcomaaDoorW.PrintLast
set_option linter.unusedVariables false
set_option linter.unusedSimpArgs false

/-! base -/
theorem w64 {x : Int} (h0 : -9223372036854775808 ≤ x) (h1 : x ≤ 9223372036854775807) : wrap64 x = x := by unfold wrap64; omega
theorem w64n (n : Nat) (h : n ≤ 9223372036854775807) : wrap64 (n : Int) = n := w64 (by omega) (by omega)
theorem w64s (n : Nat) (h : n < 9223372036854775807) : wrap64 ((n : Int) + 1) = ((n + 1 : Nat) : Int) := by rw [w64 (by omega) (by omega)]; omega
theorem evSome {α : Type} (r : α) : Ev (fun _ : Nat => some r) r := ⟨0, fun _ _ => rfl⟩
theorem evOf {α : Type} {f : Option α} {r : α} (h : f = some r) : Ev (fun _ : Nat => f) r := ⟨0, fun _ _ => h⟩
theorem evUniq {α : Type} {g : Nat → Option α} {r q : α} (h : Ev g r) (k : Ev g q) : r = q := by
  obtain ⟨a, ha⟩ := h
  obtain ⟨b, hb⟩ := k
  have h1 := ha (a + b) (by omega)
  rw [hb (a + b) (by omega)] at h1
  exact (Option.some.inj h1).symm
theorem evIf {α : Type} {c : Prop} [Decidable c] {f g : Nat → Option α} {r : α} (hp : c → Ev f r) (hn : ¬ c → Ev g r) : Ev (fun k => if c then f k else g k) r := by
  by_cases h : c
  · simp only [if_pos h]; exact hp h
  · simp only [if_neg h]; exact hn h
theorem evT {α : Type} {c : Prop} [Decidable c] {f g : Nat → Option α} {r : α} (h : c) (hp : Ev f r) : Ev (fun k => if c then f k else g k) r := by
  simp only [if_pos h]; exact hp
theorem evF {α : Type} {c : Prop} [Decidable c] {f g : Nat → Option α} {r : α} (h : ¬ c) (hp : Ev g r) : Ev (fun k => if c then f k else g k) r := by
  simp only [if_neg h]; exact hp
theorem evB {α β : Type} {f : Option α} {g : Nat → α → Option β} {a : α} {r : β} (h : f = some a) (k : Ev (fun n => g n a) r) : Ev (fun n => f.bind (g n)) r := by
  subst h
  exact k
theorem getD_eq {α : Type} (l : List α) (i : Nat) (z : α) (h : i < l.length) : l.getD i z = l[i] := by
  rw [List.getD_eq_getElem?_getD, List.getElem?_eq_getElem h]; rfl
theorem take_succ' {α : Type} (l : List α) (i : Nat) (h : i < l.length) : l.take (i + 1) = l.take i ++ [l[i]] := by
  rw [List.take_succ_eq_append_getElem h]
theorem set_fill {α : Type} (l : List α) (z x : α) (i d : Nat) (hi : l.length = i) : (l ++ List.replicate (d + 1) z).set i x = l ++ [x] ++ List.replicate d z := by
  subst hi
  rw [List.set_append_right _ _ (Nat.le_refl _), Nat.sub_self, List.replicate_succ, List.set_cons_zero, List.append_assoc]
  rfl
theorem drop_cons {α : Type} (l : List α) (i : Nat) (h : i < l.length) : l.drop i = l[i] :: l.drop (i + 1) := List.drop_eq_getElem_cons h
/-! laws_toIntS -/
theorem toIntS_l0 (l : List Int) (hl : l.length ≤ 9223372036854775806) : ∀ d i : Nat, i + d = l.length → Ev (fun k => laws_toIntS.l0 k l (l.take i ++ List.replicate d 0) (i : Int)) l := by
  intro d
  induction d with
  | zero =>
    intro i hi
    refine Ev.step (fun k => by rw [laws_toIntS.l0]) ?_
    refine evF (by omega) ?_
    have : l.take i ++ List.replicate 0 0 = l := by rw [List.take_of_length_le (by omega)]; simp
    rw [this]
    exact evSome _
  | succ d ih =>
    intro i hi
    refine Ev.step (fun k => by rw [laws_toIntS.l0]) ?_
    refine evT (by omega) (evT (by omega) (evT (by simp; omega) ?_))
    rw [w64s i (by omega), show ((i : Int)).toNat = i from by omega, set_fill _ _ _ _ _ (by rw [List.length_take]; omega)]
    have h2 : rd l (i : Int) = l[i] := by unfold rd; rw [show ((i : Int)).toNat = i from by omega]; exact getD_eq _ _ _ (by omega)
    rw [h2, ← take_succ' l i (by omega)]
    exact ih (i + 1) (by omega)
theorem toIntS_ev (l : List Int) (hl : l.length ≤ 1048576) : Ev (fun k => laws_toIntS.f k l) l := by
  unfold laws_toIntS.f
  refine evT (by omega) (evT (by omega) ?_)
  have h := toIntS_l0 l (by omega) l.length 0 (by omega)
  simpa using h
/-! laws_toIntSS -/
theorem toIntSS_l0 (l : List (List Int)) (hl : l.length ≤ 1048576) (hx : ∀ x ∈ l, x.length ≤ 1048576) : ∀ d i : Nat, i + d = l.length → Ev (fun k => laws_toIntSS.l0 k l (l.take i ++ List.replicate d []) (i : Int)) l := by
  intro d
  induction d with
  | zero =>
    intro i hi
    refine Ev.step (fun k => by rw [laws_toIntSS.l0]) ?_
    refine evF (by omega) ?_
    have : l.take i ++ List.replicate 0 [] = l := by rw [List.take_of_length_le (by omega)]; simp
    rw [this]
    exact evSome _
  | succ d ih =>
    intro i hi
    have h2 : rd_L1 l (i : Int) = l[i] := by unfold rd_L1; rw [show ((i : Int)).toNat = i from by omega]; exact getD_eq _ _ _ (by omega)
    refine Ev.step (fun k => by rw [laws_toIntSS.l0]) ?_
    refine evT (by omega) (evT (by omega) ?_)
    rw [h2]
    refine Ev.bind (toIntS_ev _ (hx _ (List.getElem_mem _))) ?_
    refine evT (by simp; omega) ?_
    rw [w64s i (by omega), show ((i : Int)).toNat = i from by omega, set_fill _ _ _ _ _ (by rw [List.length_take]; omega)]
    rw [← take_succ' l i (by omega)]
    exact ih (i + 1) (by omega)
theorem toIntSS_ev (l : List (List Int)) (hl : l.length ≤ 1048576) (hx : ∀ x ∈ l, x.length ≤ 1048576) : Ev (fun k => laws_toIntSS.f k l) l := by
  unfold laws_toIntSS.f
  refine evT (by omega) (evT (by omega) ?_)
  have h := toIntSS_l0 l hl hx l.length 0 (by omega)
  simpa using h
/-! laws_szIntS -/
theorem szIntS_ev (l : List Int) (a : Int) (ha : 0 ≤ a) (ha2 : a ≤ 1048576) (hl : l.length ≤ 9223372036854775807) : (laws_szIntS.f l a = some (-1)) ∨ (laws_szIntS.f l a = some (a - l.length) ∧ 0 ≤ a - (l.length : Int)) := by
  unfold laws_szIntS.f
  rw [w64 (x := a - (l.length : Int)) (by omega) (by omega)]
  by_cases h : a - (l.length : Int) < 0
  · exact .inl (if_pos h)
  · exact .inr ⟨if_neg h, by omega⟩
/-! laws_szIntSS -/
theorem szIntSS_l0 (l : List (List Int)) (hl : l.length ≤ 1048576) (hx : ∀ x ∈ l, x.length ≤ 9223372036854775807) : ∀ d i : Nat, i + d = l.length → ∀ a : Int, 0 ≤ a → a ≤ 1048576 →
    Ev (fun k => laws_szIntSS.l0 k l a (i : Int)) (-1) ∨ ∃ b : Int, Ev (fun k => laws_szIntSS.l0 k l a (i : Int)) b ∧ 0 ≤ b ∧ b ≤ a ∧ ∀ x ∈ l.drop i, x.length ≤ 1048576 := by
  intro d
  induction d with
  | zero =>
    intro i hi a ha ha2
    refine .inr ⟨a, ?_, ha, by omega, by rw [List.drop_of_length_le (by omega)]; simp⟩
    refine Ev.step (fun k => by rw [laws_szIntSS.l0]) ?_
    exact evF (by omega) (evSome _)
  | succ d ih =>
    intro i hi a ha ha2
    have h2 : rd_L1 l (i : Int) = l[i] := by unfold rd_L1; rw [show ((i : Int)).toNat = i from by omega]; exact getD_eq _ _ _ (by omega)
    rcases szIntS_ev l[i] a ha ha2 (hx _ (List.getElem_mem _)) with h | ⟨h, h0⟩
    · left
      refine Ev.step (fun k => by rw [laws_szIntSS.l0]) ?_
      refine evT (by omega) (evT (by omega) ?_)
      rw [h2]
      exact evB h (evT (by omega) (evSome _))
    · rcases ih (i + 1) (by omega) (a - (l[i].length : Int)) h0 (by omega) with h3 | ⟨b, h3, hb0, hba, hd⟩
      · left
        refine Ev.step (fun k => by rw [laws_szIntSS.l0]) ?_
        refine evT (by omega) (evT (by omega) ?_)
        rw [h2]
        refine evB h (evF (by omega) ?_)
        rw [w64s i (by omega)]
        exact h3
      · right
        refine ⟨b, ?_, hb0, by omega, ?_⟩
        · refine Ev.step (fun k => by rw [laws_szIntSS.l0]) ?_
          refine evT (by omega) (evT (by omega) ?_)
          rw [h2]
          refine evB h (evF (by omega) ?_)
          rw [w64s i (by omega)]
          exact h3
        · rw [drop_cons l i (by omega)]
          intro x hxm
          rcases List.mem_cons.1 hxm with rfl | hxm
          · omega
          · exact hd x hxm
theorem szIntSS_ev (l : List (List Int)) (a : Int) (ha : 0 ≤ a) (ha2 : a ≤ 1048576) (hl : l.length ≤ 9223372036854775807) (hx : ∀ x ∈ l, x.length ≤ 9223372036854775807) :
    Ev (fun k => laws_szIntSS.f k l a) (-1) ∨ ∃ b : Int, Ev (fun k => laws_szIntSS.f k l a) b ∧ 0 ≤ b ∧ b ≤ a ∧ l.length ≤ 1048576 ∧ ∀ x ∈ l, x.length ≤ 1048576 := by
  unfold laws_szIntSS.f
  rw [w64 (x := a - (l.length : Int)) (by omega) (by omega)]
  by_cases h : a - (l.length : Int) < 0
  · exact .inl (evT h (evSome _))
  · rcases szIntSS_l0 l (by omega) hx l.length 0 (by omega) (a - (l.length : Int)) (by omega) (by omega) with h3 | ⟨b, h3, hb0, hba, hd⟩
    · exact .inl (evF h h3)
    · exact .inr ⟨b, evF h h3, hb0, by omega, by omega, by simpa using hd⟩
/-! laws_eqIntS -/
theorem eqIntS_l0 (l : List Int) (hl : l.length ≤ 9223372036854775806) : ∀ d i : Nat, i + d = l.length → Ev (fun k => laws_eqIntS.l0 k l l (i : Int)) true := by
  intro d
  induction d with
  | zero =>
    intro i hi
    refine Ev.step (fun k => by rw [laws_eqIntS.l0]) ?_
    exact evF (by omega) (evSome _)
  | succ d ih =>
    intro i hi
    refine Ev.step (fun k => by rw [laws_eqIntS.l0]) ?_
    refine evT (by omega) (evT (by omega) (evT (by omega) (evT rfl ?_)))
    rw [w64s i (by omega)]
    exact ih (i + 1) (by omega)
theorem eqIntS_ev (l : List Int) (hl : l.length ≤ 1048576) : Ev (fun k => laws_eqIntS.f k l l) true := by
  unfold laws_eqIntS.f
  exact evT rfl (by simpa using eqIntS_l0 l (by omega) l.length 0 (by omega))
/-! laws_eqIntSS -/
theorem eqIntSS_l0 (l : List (List Int)) (hl : l.length ≤ 9223372036854775806) (hx : ∀ x ∈ l, x.length ≤ 1048576) : ∀ d i : Nat, i + d = l.length → Ev (fun k => laws_eqIntSS.l0 k l l (i : Int)) true := by
  intro d
  induction d with
  | zero =>
    intro i hi
    refine Ev.step (fun k => by rw [laws_eqIntSS.l0]) ?_
    exact evF (by omega) (evSome _)
  | succ d ih =>
    intro i hi
    have h2 : rd_L1 l (i : Int) = l[i] := by unfold rd_L1; rw [show ((i : Int)).toNat = i from by omega]; exact getD_eq _ _ _ (by omega)
    refine Ev.step (fun k => by rw [laws_eqIntSS.l0]) ?_
    refine evT (by omega) (evT (by omega) (evT (by omega) ?_))
    rw [h2]
    refine Ev.bind (eqIntS_ev _ (hx _ (List.getElem_mem _))) (evT rfl ?_)
    rw [w64s i (by omega)]
    exact ih (i + 1) (by omega)
theorem eqIntSS_ev (l : List (List Int)) (hl : l.length ≤ 1048576) (hx : ∀ x ∈ l, x.length ≤ 1048576) : Ev (fun k => laws_eqIntSS.f k l l) true := by
  unfold laws_eqIntSS.f
  exact evT rfl (by simpa using eqIntSS_l0 l (by omega) hx l.length 0 (by omega))
/-! l01In -/
theorem l01In_t {a lo hi : Int} (h0 : lo ≤ a) (h1 : a ≤ hi) : spec_l01In.f a lo hi = some true := by unfold spec_l01In.f; rw [if_pos h0]; simp [h1]
theorem l01In_f {a lo hi : Int} (h : ¬ (lo ≤ a ∧ a ≤ hi)) : spec_l01In.f a lo hi = some false := by
  unfold spec_l01In.f
  by_cases h0 : lo ≤ a
  · rw [if_pos h0]; simp; omega
  · rw [if_neg h0]
theorem l01In_eq (a lo hi : Int) : spec_l01In.f a lo hi = some (decide (lo ≤ a ∧ a ≤ hi)) := by
  by_cases h : lo ≤ a ∧ a ≤ hi
  · rw [l01In_t h.1 h.2]; simp [h]
  · rw [l01In_f h]; simp; omega
/-! copyBase -/
theorem copy_rd (l : List (List Int)) (i : Nat) (h : i < l.length) : rd_L1 l (i : Int) = l[i] := by unfold rd_L1; rw [show ((i : Int)).toNat = i from by omega]; exact getD_eq _ _ _ h
/-! copyLists -/
theorem copyLists_l0 (l : List (List Int)) (hl : l.length ≤ 1048576) (hx : ∀ x ∈ l, x.length ≤ 1048576) : ∀ d i : Nat, i + d = l.length → Ev (fun k => impl_copyLists.l0 k (l.take i) l (l.length : Int) (i : Int)) l := by
  intro d
  induction d with
  | zero =>
    intro i hi
    refine Ev.step (fun k => by rw [impl_copyLists.l0]) ?_
    rw [List.take_of_length_le (by omega)]
    exact evF (by omega) (evSome _)
  | succ d ih =>
    intro i hi
    have hil : i < l.length := by omega
    have h2 := hx _ (List.getElem_mem hil)
    refine Ev.step (fun k => by rw [impl_copyLists.l0]) ?_
    refine evT (by omega) (evT (by omega) (evT (by omega) ?_))
    rw [copy_rd l i hil, w64s i (by omega)]
    refine evB rfl (evT (by simp only [List.length_nil]; omega) (evT (by simp only [List.length_take]; omega) ?_))
    rw [List.nil_append, ← take_succ' l i hil]
    exact ih (i + 1) (by omega)
theorem copyLists_ev (l : List (List Int)) (hl : l.length ≤ 1048576) (hx : ∀ x ∈ l, x.length ≤ 1048576) : Ev (fun k => impl_copyLists.f k l) l := by
  unfold impl_copyLists.f
  simpa using copyLists_l0 l hl hx l.length 0 (by omega)
/-! storeOk -/
theorem spec_store_l0 (l : List (List Int)) (hl : l.length ≤ 1048576) : ∀ d i : Nat, i + d = l.length → Ev (fun k => spec_StoreOk.l0 k l (l.length : Int) (i : Int)) ((l.drop i).all impl_StoreOk.row) := by
  intro d
  induction d with
  | zero =>
    intro i hi
    refine Ev.step (fun k => by rw [spec_StoreOk.l0]) ?_
    rw [List.drop_of_length_le (by omega)]
    exact evF (by omega) (evSome _)
  | succ d ih =>
    intro i hi
    have hil : i < l.length := by omega
    refine Ev.step (fun k => by rw [spec_StoreOk.l0]) ?_
    refine evT (by omega) (evT (by omega) (evT (by omega) ?_))
    have hrd : rd_L1 l (i : Int) = l[i] := by unfold rd_L1; rw [show ((i : Int)).toNat = i from by omega]; exact getD_eq _ _ _ hil
    rw [hrd, drop_cons l i hil, List.all_cons, w64s i (by omega)]
    have hrow : ∀ x : List Int, impl_StoreOk.row x = (decide (x.length = 2) && ((decide (1 ≤ rd x 0) && decide (rd x 0 ≤ 100)) && (decide (1 ≤ rd x 1) && decide (rd x 1 ≤ 100)))) := fun _ => rfl
    by_cases c0 : ((l[i].length : Nat) : Int) = 2
    · refine evT c0 (evT (by omega) ?_)
      by_cases c1 : 1 ≤ rd l[i] 0 ∧ rd l[i] 0 ≤ 100
      · refine evB (l01In_t c1.1 c1.2) (evT rfl (evT (by omega) ?_))
        by_cases c2 : 1 ≤ rd l[i] 1 ∧ rd l[i] 1 ≤ 100
        · refine evB (l01In_t c2.1 c2.2) (evT rfl ?_)
          rw [hrow, decide_eq_true (show l[i].length = 2 by omega), decide_eq_true c1.1, decide_eq_true c1.2, decide_eq_true c2.1, decide_eq_true c2.2]
          exact ih (i + 1) (by omega)
        · refine evB (l01In_f c2) (evF (by decide) ?_)
          have e : (decide (1 ≤ rd l[i] 1) && decide (rd l[i] 1 ≤ 100)) = false := by rw [← Bool.decide_and]; exact decide_eq_false c2
          rw [hrow, e]
          simpa using evSome false
      · refine evB (l01In_f c1) (evF (by decide) ?_)
        have e : (decide (1 ≤ rd l[i] 0) && decide (rd l[i] 0 ≤ 100)) = false := by rw [← Bool.decide_and]; exact decide_eq_false c1
        rw [hrow, e]
        simpa using evSome false
    · refine evF c0 ?_
      rw [hrow, decide_eq_false (show ¬ l[i].length = 2 by omega)]
      simpa using evSome false
theorem spec_store_ev (l : List (List Int)) (hl : l.length ≤ 1048576) : Ev (fun k => spec_StoreOk.f k l) (decide (l.length ≤ 20) && l.all impl_StoreOk.row) := by
  unfold spec_StoreOk.f
  by_cases h : l.length ≤ 20
  · rw [decide_eq_true h, Bool.true_and]
    exact evF (by omega) (by simpa using spec_store_l0 l hl l.length 0 (by omega))
  · rw [decide_eq_false h]
    exact evT (by omega) (evSome _)
/-! fmtBase -/
def I64' (x : Int) : Prop := -9223372036854775808 ≤ x ∧ x ≤ 9223372036854775807
def itob (n : Int) : ByteArray := ⟨(Lib.itoa n).toArray⟩
theorem ba_ext {a b : ByteArray} (h : a.data.toList = b.data.toList) : a = b := by
  obtain ⟨⟨a⟩⟩ := a
  obtain ⟨⟨b⟩⟩ := b
  exact congrArg (fun l => (⟨⟨l⟩⟩ : ByteArray)) h
theorem ba_size (l : List UInt8) : (⟨l.toArray⟩ : ByteArray).size = l.length := by show l.toArray.size = _; exact List.size_toArray
theorem ba_size' (b : ByteArray) : b.size = b.data.toList.length := by rw [Array.length_toList]; rfl
theorem ba_app (a b : List UInt8) : (⟨a.toArray⟩ : ByteArray) ++ (⟨b.toArray⟩ : ByteArray) = ⟨(a ++ b).toArray⟩ := by
  apply ba_ext
  rw [ByteArray.data_append, Array.toList_append]
theorem ba_app_l (a b : ByteArray) : (a ++ b).data.toList = a.data.toList ++ b.data.toList := by rw [ByteArray.data_append, Array.toList_append]
theorem itob_data (n : Int) : (itob n).data.toList = Lib.itoa n := rfl
theorem one_num (d : Nat) (h : d < 10) : strOfNums [((48 + d : Nat) : Int)] = ⟨([UInt8.ofNat (48 + d)] : List UInt8).toArray⟩ := by
  apply ba_ext
  rw [strOfNums_data, List.map_cons, List.map_nil, Int.toNat_natCast]
theorem dec_len : ∀ (k u : Nat), 1 ≤ k → u < 10 ^ k → (Lib.decDigits u).length ≤ k
  | 0, u, h, _ => by omega
  | k + 1, u, _, h => by
    rw [Lib.decDigits]
    split
    · simp
    · rename_i h9
      rw [List.length_append, List.length_singleton]
      have hk : 1 ≤ k := by
        cases k with
        | zero => simp at h; omega
        | succ k => omega
      have := dec_len k (u / 10) hk (by rw [Nat.pow_succ] at h; omega)
      omega
theorem itoa_len (n : Int) (h : I64' n) : (Lib.itoa n).length ≤ 20 := by
  unfold I64' at h
  unfold Lib.itoa
  split
  · have := dec_len 19 n.natAbs (by decide) (by omega)
    rw [List.length_cons]; omega
  · have := dec_len 19 n.toNat (by decide) (by omega)
    omega
/-! fmtInt -/
theorem one_ch (u : Nat) (h9 : u < 10) : (wrap64 (48 + (u : Int))) % 256 = ((48 + u : Nat) : Int) := by rw [w64 (by omega) (by omega)]; omega
theorem fmt_l0 : ∀ (m : Nat) (u : Nat) (acc : List UInt8), u < 10 ^ (m + 1) → acc.length + m ≤ 1000 → u < 9223372036854775808 → Ev (fun k => spec_FormatInt.l0 k (u : Int) ⟨acc.toArray⟩) ⟨(Lib.decDigits u ++ acc).toArray⟩ := by
  intro m
  induction m with
  | zero =>
    intro u acc hu h2 h1
    have h9 : u < 10 := by simpa using hu
    refine Ev.step (fun k => by rw [spec_FormatInt.l0]) ?_
    refine evF (by omega) ?_
    rw [one_ch u h9]
    refine evB rfl ?_
    rw [one_num u h9]
    refine evT (by rw [ba_size, ba_size]; simp; omega) ?_
    rw [ba_app, Lib.decDigits, dif_pos h9]
    exact evSome _
  | succ m ih =>
    intro u acc hu h2 h1
    refine Ev.step (fun k => by rw [spec_FormatInt.l0]) ?_
    by_cases h9 : u < 10
    · refine evF (by omega) ?_
      rw [one_ch u h9]
      refine evB rfl ?_
      rw [one_num u h9]
      refine evT (by rw [ba_size, ba_size]; simp; omega) ?_
      rw [ba_app, Lib.decDigits, dif_pos h9]
      exact evSome _
    · refine evT (by omega) ?_
      have e0 : Int.tmod (u : Int) 10 = ((u % 10 : Nat) : Int) := by rw [Int.tmod_eq_emod_of_nonneg (by omega)]; omega
      have e1 : Int.tdiv (u : Int) 10 = ((u / 10 : Nat) : Int) := by rw [Int.tdiv_eq_ediv_of_nonneg (by omega)]; omega
      rw [e0, e1, one_ch _ (by omega), w64 (x := ((u / 10 : Nat) : Int)) (by omega) (by omega)]
      refine evB rfl ?_
      rw [one_num (u % 10) (by omega)]
      refine evT (by rw [ba_size, ba_size]; simp; omega) ?_
      rw [ba_app]
      have := ih (u / 10) ([UInt8.ofNat (48 + u % 10)] ++ acc) (by rw [Nat.pow_succ] at hu; omega) (by simp; omega) (by omega)
      rw [Lib.decDigits, dif_neg h9, List.append_assoc]
      exact this
theorem fmt_neg : ∀ (m : Nat) (u : Nat), 1 ≤ u → u < 10 ^ (m + 1) → u ≤ 9223372036854775808 → m ≤ 30 → Ev (fun k => spec_FormatInt.f k (-(u : Int))) ⟨(45 :: Lib.decDigits u).toArray⟩ := by
  intro m
  induction m with
  | zero =>
    intro u h0 hu h1 hm
    have h9 : u < 10 := by simpa using hu
    refine Ev.step (fun k => by rw [spec_FormatInt.f]) ?_
    refine evT (by omega) ?_
    have e1 : Int.tdiv (-(u : Int)) 10 = 0 := by rw [Int.neg_tdiv, Int.tdiv_eq_ediv_of_nonneg (by omega)]; omega
    rw [e1]
    refine evT (w64 (by omega) (by omega)) ?_
    have e : (48 - (-(u : Int))) = 48 + (u : Int) := by omega
    rw [e, one_ch u h9]
    refine evB rfl ?_
    rw [one_num u h9]
    refine evT (by rw [ba_size]; simp) ?_
    rw [Lib.decDigits, dif_pos h9]
    exact evSome _
  | succ m ih =>
    intro u h0 hu h1 hm
    refine Ev.step (fun k => by rw [spec_FormatInt.f]) ?_
    refine evT (by omega) ?_
    have e1 : Int.tdiv (-(u : Int)) 10 = -((u / 10 : Nat) : Int) := by rw [Int.neg_tdiv, Int.tdiv_eq_ediv_of_nonneg (by omega)]; omega
    have e0 : Int.tmod (-(u : Int)) 10 = -((u % 10 : Nat) : Int) := by rw [Int.neg_tmod, Int.tmod_eq_emod_of_nonneg (by omega)]; omega
    rw [e1, e0, w64 (x := -((u / 10 : Nat) : Int)) (by omega) (by omega)]
    by_cases h9 : u < 10
    · refine evT (by omega) ?_
      have e : (48 - (-(u : Int))) = 48 + (u : Int) := by omega
      rw [e, one_ch u h9]
      refine evB rfl ?_
      rw [one_num u h9]
      refine evT (by rw [ba_size]; simp) ?_
      rw [Lib.decDigits, dif_pos h9]
      exact evSome _
    · refine evF (by omega) ?_
      refine Ev.bind (ih (u / 10) (by omega) (by rw [Nat.pow_succ] at hu; omega) (by omega) (by omega)) ?_
      have e : (48 - (-((u % 10 : Nat) : Int))) = 48 + ((u % 10 : Nat) : Int) := by omega
      rw [e, one_ch _ (by omega)]
      refine evB rfl ?_
      rw [one_num (u % 10) (by omega)]
      have hl := dec_len (m + 1) (u / 10) (by omega) (by rw [Nat.pow_succ] at hu; omega)
      refine evT (by rw [ba_size, ba_size]; simp; omega) ?_
      rw [ba_app]
      have e3 : Lib.decDigits u = Lib.decDigits (u / 10) ++ [UInt8.ofNat (48 + u % 10)] := by rw [Lib.decDigits, dif_neg h9]
      rw [e3, ← List.cons_append]
      exact evSome _
theorem spec_fmt_ev (n : Int) (h : I64' n) : Ev (fun k => spec_FormatInt.f k n) (itob n) := by
  unfold I64' at h
  unfold itob Lib.itoa
  by_cases h0 : n < 0
  · rw [if_pos h0]
    have := fmt_neg 18 n.natAbs (by omega) (by omega) (by omega) (by omega)
    rwa [show -((n.natAbs : Nat) : Int) = n by omega] at this
  · rw [if_neg h0]
    refine Ev.step (fun k => by rw [spec_FormatInt.f]) ?_
    refine evF h0 ?_
    have := fmt_l0 18 n.toNat [] (by omega) (by simp) (by omega)
    rwa [show ((n.toNat : Nat) : Int) = n by omega, List.append_nil] at this
/-! fmtImpl -/
theorem impl_fmt (n : Int) (h : I64' n) : impl_FormatInt.f n = some (itob n) := by
  unfold impl_FormatInt.f
  exact if_pos h
/-! joinBase -/
theorem join_len (xs : List (List UInt8)) (sep : List UInt8) (h : ∀ x ∈ xs, x.length ≤ 100000) (hs : sep.length ≤ 100000) : (Lib.join xs sep).length ≤ 200000 * xs.length := by
  cases xs with
  | nil => simp [Lib.join]
  | cons x r =>
    rw [Lib.join_cons, List.length_append, Lib.joinTail_length, List.length_cons]
    have h1 : Lib.lens r ≤ 100000 * r.length := by
      have hr : ∀ y ∈ r, y.length ≤ 100000 := fun y hy => h y (List.mem_cons_of_mem _ hy)
      clear h
      induction r with
      | nil => simp [Lib.lens]
      | cons y r ih =>
        have := ih (fun z hz => hr z (List.mem_cons_of_mem _ hz))
        have h2 := hr y List.mem_cons_self
        unfold Lib.lens at this ⊢
        simp only [List.map_cons, List.sum_cons, List.length_cons]
        omega
    have h2 := h x List.mem_cons_self
    have h3 : sep.length * r.length ≤ 100000 * r.length := Nat.mul_le_mul_right _ hs
    omega
theorem join_snoc (xs : List (List UInt8)) (sep y : List UInt8) (h : xs ≠ []) : Lib.join (xs ++ [y]) sep = Lib.join xs sep ++ sep ++ y := by
  cases xs with
  | nil => exact absurd rfl h
  | cons x r =>
    rw [List.cons_append, Lib.join_cons, Lib.join_cons]
    simp [Lib.joinTail]
/-! joinSpec -/
def joinB (l : List ByteArray) (sep : ByteArray) : ByteArray := ⟨(Lib.join (l.map (·.data.toList)) sep.data.toList).toArray⟩
theorem joinB_one (x sep : ByteArray) : joinB [x] sep = x := by
  apply ba_ext
  simp [joinB, Lib.join_one]
theorem joinB_snoc (l : List ByteArray) (sep x : ByteArray) (h : l ≠ []) : joinB (l ++ [x]) sep = joinB l sep ++ sep ++ x := by
  apply ba_ext
  unfold joinB
  rw [List.map_append, List.map_cons, List.map_nil, join_snoc _ _ _ (by simpa using h)]
  simp
theorem joinB_size (l : List ByteArray) (sep : ByteArray) (h : ∀ x ∈ l, x.size ≤ 100000) (hs : sep.size ≤ 100000) : (joinB l sep).size ≤ 200000 * l.length := by
  unfold joinB
  rw [ba_size]
  have := join_len (l.map (·.data.toList)) sep.data.toList (by
    intro x hx
    obtain ⟨y, hy, rfl⟩ := List.mem_map.1 hx
    have := h y hy
    rwa [ba_size'] at this) (by rwa [ba_size'] at hs)
  simpa using this
theorem join_l0 (l : List ByteArray) (sep : ByteArray) (h : ∀ x ∈ l, x.size ≤ 100000) (hs : sep.size ≤ 100000) (hl : l.length ≤ 1000000) : ∀ d i : Nat, i + d = l.length → Ev (fun k => spec_Join.l0 k sep (joinB (l.take i) sep) l (l.length : Int) (i : Int)) (joinB l sep) := by
  intro d
  induction d with
  | zero =>
    intro i hi
    refine Ev.step (fun k => by rw [spec_Join.l0]) ?_
    refine evF (by omega) ?_
    rw [List.take_of_length_le (by omega)]
    exact evSome _
  | succ d ih =>
    intro i hi
    have hr : rdOf ByteArray.empty l (i : Int) = l[i] := by unfold rdOf; rw [show ((i : Int)).toNat = i from by omega]; exact getD_eq _ _ _ (by omega)
    have hz := joinB_size (l.take i) sep (fun x hx => h x (List.mem_of_mem_take hx)) hs
    rw [List.length_take] at hz
    have hx := h l[i] (List.getElem_mem _)
    have hs1 : (joinB (l.take i) sep ++ sep).size = (joinB (l.take i) sep).size + sep.size := ByteArray.size_append
    have ih' := ih (i + 1) (by omega)
    refine Ev.step (fun k => by rw [spec_Join.l0]) ?_
    refine evT (by omega) (evT (by omega) (evT (by omega) ?_))
    rw [hr, w64s i (by omega)]
    rw [take_succ' l i (by omega)] at ih'
    by_cases h0 : i = 0
    · subst h0
      refine evF (by omega) ?_
      have e0 : joinB (List.take 0 l) sep = ByteArray.empty := rfl
      have e1 : List.take 0 l = [] := rfl
      rw [e1, List.nil_append, joinB_one] at ih'
      rw [e0] at hz ⊢
      refine evT (by rw [ByteArray.size_empty]; omega) ?_
      rw [ByteArray.empty_append]
      exact ih'
    · have hne : l.take i ≠ [] := by
        intro e
        have := congrArg List.length e
        rw [List.length_take, List.length_nil] at this
        omega
      rw [joinB_snoc _ _ _ hne] at ih'
      exact evT (by omega) (evT (by omega) (evT (by omega) ih'))
theorem spec_join_ev (l : List ByteArray) (sep : ByteArray) (h : ∀ x ∈ l, x.size ≤ 100000) (hs : sep.size ≤ 100000) (hl : l.length ≤ 1000000) : Ev (fun k => spec_Join.f k l sep) (joinB l sep) := by
  unfold spec_Join.f
  exact join_l0 l sep h hs hl l.length 0 (by omega)
/-! joinImpl -/
theorem impl_join (l : List ByteArray) (sep : ByteArray) (h : ∀ x ∈ l, x.size ≤ 100000) (hs : sep.size ≤ 100000) (hl : l.length ≤ 1000000) : impl_Join.f l sep = some (joinB l sep) := by
  have hz := joinB_size l sep h hs
  have h1 : strings_Join.f l sep = some (joinB l sep) := by
    unfold strings_Join.f
    unfold joinB at hz
    rw [ba_size] at hz
    exact if_pos ⟨by omega, by omega⟩
  unfold impl_Join.f
  rw [h1]
  rfl
/-! numbersBy -/
theorem nby_l0 (l : List Int) (sep : ByteArray) (hs : sep.size ≤ 100000) (h : ∀ x ∈ l, I64' x) (hl : l.length ≤ 1000) : ∀ d i : Nat, i + d = l.length → Ev (fun k => impl_numbersBy.l0 k sep ((l.take i).map itob) l (l.length : Int) (i : Int)) (joinB (l.map itob) sep) := by
  intro d
  induction d with
  | zero =>
    intro i hi
    refine Ev.step (fun k => by rw [impl_numbersBy.l0]) ?_
    refine evF (by omega) ?_
    rw [List.take_of_length_le (by omega)]
    exact evB (impl_join _ _ (fun x hx => by
      obtain ⟨n, hn, rfl⟩ := List.mem_map.1 hx
      have := itoa_len n (h n hn)
      rw [ba_size', itob_data]; omega) hs (by rw [List.length_map]; omega)) (evSome _)
  | succ d ih =>
    intro i hi
    have h2 : rd l (i : Int) = l[i] := by unfold rd; rw [show ((i : Int)).toNat = i from by omega]; exact getD_eq _ _ _ (by omega)
    refine Ev.step (fun k => by rw [impl_numbersBy.l0]) ?_
    refine evT (by omega) (evT (by omega) (evT (by omega) ?_))
    rw [h2]
    refine evB (impl_fmt _ (h _ (List.getElem_mem _))) ?_
    refine evT (by rw [List.length_map, List.length_take]; omega) ?_
    have e : (l.take i).map itob ++ [itob l[i]] = (l.take (i + 1)).map itob := by rw [take_succ' l i (by omega), List.map_append]; rfl
    rw [w64s i (by omega), e]
    exact ih (i + 1) (by omega)
theorem nby_ev (l : List Int) (sep : ByteArray) (hs : sep.size ≤ 100000) (h : ∀ x ∈ l, I64' x) (hl : l.length ≤ 1000) : Ev (fun k => impl_numbersBy.f k l sep) (joinB (l.map itob) sep) := by
  unfold impl_numbersBy.f
  exact nby_l0 l sep hs h hl l.length 0 (by omega)
/-! sortStore -/
theorem sto_gt (s r : List Int) : spec_SortStore.gt s r = !(impl_SortStore.le s r) := by
  unfold spec_SortStore.gt impl_SortStore.le
  generalize rd r 0 * rd r 1 = x
  generalize rd s 0 * rd s 1 = y
  rw [Bool.eq_iff_iff]
  simp only [Bool.or_eq_true, Bool.and_eq_true, decide_eq_true_eq, Bool.not_eq_true', Bool.or_eq_false_iff, Bool.and_eq_false_iff, decide_eq_false_iff_not]
  omega
theorem sto_pos (o : List (List Int)) (r : List Int) : ∀ k, (∀ q, spec_SortStore.pos o r k ≤ q → q < k → spec_SortStore.gt (o.getD q []) r = true) ∧ (spec_SortStore.pos o r k = 0 ∨ spec_SortStore.gt (o.getD (spec_SortStore.pos o r k - 1) []) r = false)
  | 0 => ⟨fun q _ h => by omega, .inl rfl⟩
  | k + 1 => by
    have ih := sto_pos o r k
    rw [spec_SortStore.pos]
    by_cases h : spec_SortStore.gt (o.getD k []) r = true
    · rw [if_pos h]
      refine ⟨fun q h1 h2 => ?_, ih.2⟩
      by_cases e : q = k
      · rw [e]; exact h
      · exact ih.1 q h1 (by omega)
    · rw [if_neg h]
      exact ⟨fun q h1 h2 => by omega, .inr (by rw [Nat.add_sub_cancel]; exact Bool.eq_false_iff.2 h)⟩
theorem sto_eta {r : List Int} (h : impl_SortStore.ok r) : [rd r 0, rd r 1] = r := by
  match r, h.1 with
  | [a, b], _ => rfl
theorem sto_ins {o : List (List Int)} {r : List Int} (ho : o.Pairwise (fun a b => impl_SortStore.le a b = true)) (hr : impl_SortStore.ok r) : (spec_SortStore.ins o r).Pairwise (fun a b => impl_SortStore.le a b = true) ∧ (spec_SortStore.ins o r).Perm (r :: o) := by
  have hp := sto_pos o r o.length
  have hle := spec_SortStore.pos_le o r o.length
  unfold spec_SortStore.ins
  rw [sto_eta hr]
  generalize spec_SortStore.pos o r o.length = p at hp hle
  constructor
  · have h1 : ∀ a ∈ o.take p, impl_SortStore.le a r = true := by
      intro a ha
      obtain ⟨q, hq, rfl⟩ := List.getElem_of_mem ha
      rw [List.length_take] at hq
      rw [List.getElem_take]
      rcases hp.2 with e | e
      · omega
      · rw [sto_gt, Bool.not_eq_false'] at e
        rw [getD_eq _ _ _ (by omega)] at e
        by_cases c : q = p - 1
        · subst c; exact e
        · exact impl_SortStore.le_trans _ _ _ (List.pairwise_iff_getElem.1 ho q (p - 1) (by omega) (by omega) (by omega)) e
    have h2 : ∀ b ∈ o.drop p, impl_SortStore.le r b = true := by
      intro b hb
      obtain ⟨q, hq, rfl⟩ := List.getElem_of_mem hb
      rw [List.length_drop] at hq
      rw [List.getElem_drop]
      have := hp.1 (p + q) (by omega) (by omega)
      rw [sto_gt, Bool.not_eq_true', getD_eq _ _ _ (by omega)] at this
      have t := impl_SortStore.le_total r o[p + q]
      rw [this, Bool.or_false] at t
      exact t
    rw [List.append_assoc, List.pairwise_append]
    refine ⟨ho.take, ?_, ?_⟩
    · rw [List.singleton_append, List.pairwise_cons]
      exact ⟨h2, ho.drop⟩
    · intro a ha b hb
      rw [List.singleton_append, List.mem_cons] at hb
      rcases hb with rfl | hb
      · exact h1 a ha
      · exact impl_SortStore.le_trans _ _ _ (h1 a ha) (h2 b hb)
  · rw [List.append_assoc, List.singleton_append]
    refine List.perm_middle.trans ?_
    rw [List.take_append_drop]
theorem sto_fold : ∀ (l o : List (List Int)), (∀ r ∈ l, impl_SortStore.ok r) → o.Pairwise (fun a b => impl_SortStore.le a b = true) → (l.foldl spec_SortStore.ins o).Pairwise (fun a b => impl_SortStore.le a b = true) ∧ (l.foldl spec_SortStore.ins o).Perm (l ++ o)
  | [], o, _, ho => ⟨ho, List.Perm.refl _⟩
  | r :: l, o, hl, ho => by
    have hi := sto_ins ho (hl r (List.mem_cons_self ..))
    have h := sto_fold l (spec_SortStore.ins o r) (fun s hs => hl s (List.mem_cons_of_mem _ hs)) hi.1
    refine ⟨h.1, h.2.trans ?_⟩
    refine (hi.2.append_left l).trans ?_
    exact List.perm_middle
theorem sto_same (l : List (List Int)) (h : ∀ r ∈ l, impl_SortStore.ok r) : spec_SortStore.run l = impl_SortStore.sorted l := by
  have hf := sto_fold l [] h List.Pairwise.nil
  rw [List.append_nil] at hf
  refine List.Perm.eq_of_pairwise (le := fun a b => impl_SortStore.le a b = true) ?_ hf.1 (List.pairwise_mergeSort impl_SortStore.le_trans impl_SortStore.le_total _) (hf.2.trans (List.mergeSort_perm _ _).symm)
  intro a b ha hb h1 h2
  exact impl_SortStore.anti (h a (hf.2.mem_iff.1 ha)) (h b ((List.mergeSort_perm _ _).mem_iff.1 hb)) h1 h2
/-! storeLine -/
def stoB (r : List Int) : ByteArray := (itob (rd r 0) ++ (⟨#[120]⟩ : ByteArray)) ++ itob (rd r 1)
def storeB (l : List (List Int)) : ByteArray := if l.length = 0 then ⟨#[101, 109, 112, 116, 121]⟩ else joinB (l.map stoB) ⟨#[32]⟩
theorem sto_i64 {r : List Int} (h : impl_SortStore.ok r) : I64' (rd r 0) ∧ I64' (rd r 1) := by
  obtain ⟨_, h1, h2⟩ := h
  exact ⟨⟨by omega, by omega⟩, ⟨by omega, by omega⟩⟩
theorem sto_size0 {n : Int} (h : I64' n) : (itob n).size ≤ 20 := by
  have := itoa_len n h
  rw [ba_size', itob_data]; exact this
theorem sto_size1 {r : List Int} (h : impl_SortStore.ok r) : (itob (rd r 0) ++ (⟨#[120]⟩ : ByteArray)).size ≤ 21 := by
  have := sto_size0 (sto_i64 h).1
  rw [ByteArray.size_append, show (⟨#[120]⟩ : ByteArray).size = 1 from rfl]; omega
theorem sto_size {r : List Int} (h : impl_SortStore.ok r) : (stoB r).size ≤ 41 := by
  have := sto_size1 h
  have := sto_size0 (sto_i64 h).2
  unfold stoB
  rw [ByteArray.size_append]; omega
theorem sto_join {r : List Int} (h : impl_SortStore.ok r) : joinB (r.map itob) ⟨#[120]⟩ = stoB r := by
  match r, h.1 with
  | [a, b], _ =>
    show joinB ([itob a] ++ [itob b]) _ = _
    rw [joinB_snoc _ _ _ (by simp), joinB_one]
    rfl
theorem sto_words (l : List (List Int)) (h : ∀ r ∈ l, impl_SortStore.ok r) : ∀ x ∈ l.map stoB, x.size ≤ 100000 := by
  intro x hx
  obtain ⟨r, hr, rfl⟩ := List.mem_map.1 hx
  have := sto_size (h r hr)
  omega
theorem spec_sline_l0 (l : List (List Int)) (h : ∀ r ∈ l, impl_SortStore.ok r) (hl : l.length ≤ 1000) : ∀ d i : Nat, i + d = l.length → Ev (fun k => spec_StoreLine.l0 k ((l.take i).map stoB) l (l.length : Int) (i : Int)) (storeB l) := by
  intro d
  induction d with
  | zero =>
    intro i hi
    refine Ev.step (fun k => by rw [spec_StoreLine.l0]) ?_
    refine evF (by omega) ?_
    rw [List.take_of_length_le (by omega)]
    unfold storeB
    by_cases c : l.length = 0
    · rw [if_pos c]; exact evT (by rw [List.length_map]; omega) (evSome _)
    · rw [if_neg c]
      exact evF (by rw [List.length_map]; omega) (Ev.bind (spec_join_ev _ _ (sto_words l h) (by decide) (by rw [List.length_map]; omega)) (evSome _))
  | succ d ih =>
    intro i hi
    have h2 : rd_L1 l (i : Int) = l[i] := by unfold rd_L1; rw [show ((i : Int)).toNat = i from by omega]; exact getD_eq _ _ _ (by omega)
    have hok := h _ (List.getElem_mem (show i < l.length by omega))
    refine Ev.step (fun k => by rw [spec_StoreLine.l0]) ?_
    refine evT (by omega) (evT (by omega) (evT (by omega) ?_))
    rw [h2]
    refine evT (by have := hok.1; omega) ?_
    refine Ev.bind (spec_fmt_ev _ (sto_i64 hok).1) ?_
    refine evT (by have := sto_size0 (sto_i64 hok).1; omega) (evT (by have := hok.1; omega) ?_)
    refine Ev.bind (spec_fmt_ev _ (sto_i64 hok).2) ?_
    refine evT (by have := sto_size1 hok; have := sto_size0 (sto_i64 hok).2; omega) (evT (by rw [List.length_map, List.length_take]; omega) ?_)
    have e : (l.take i).map stoB ++ [(itob (rd l[i] 0) ++ (⟨#[120]⟩ : ByteArray)) ++ itob (rd l[i] 1)] = (l.take (i + 1)).map stoB := by rw [take_succ' l i (by omega), List.map_append]; rfl
    rw [w64s i (by omega), e]
    exact ih (i + 1) (by omega)
theorem impl_sline_l0 (l : List (List Int)) (h : ∀ r ∈ l, impl_SortStore.ok r) (hl : l.length ≤ 1000) : ∀ d i : Nat, i + d = l.length → Ev (fun k => impl_StoreLine.l0 k ((l.take i).map stoB) l (l.length : Int) (i : Int)) (storeB l) := by
  intro d
  induction d with
  | zero =>
    intro i hi
    refine Ev.step (fun k => by rw [impl_StoreLine.l0]) ?_
    refine evF (by omega) ?_
    rw [List.take_of_length_le (by omega)]
    unfold storeB
    by_cases c : l.length = 0
    · rw [if_pos c]; exact evT (by rw [List.length_map]; omega) (evSome _)
    · rw [if_neg c]
      exact evF (by rw [List.length_map]; omega) (evB (impl_join _ _ (sto_words l h) (by decide) (by rw [List.length_map]; omega)) (evSome _))
  | succ d ih =>
    intro i hi
    have h2 : rd_L1 l (i : Int) = l[i] := by unfold rd_L1; rw [show ((i : Int)).toNat = i from by omega]; exact getD_eq _ _ _ (by omega)
    have hok := h _ (List.getElem_mem (show i < l.length by omega))
    refine Ev.step (fun k => by rw [impl_StoreLine.l0]) ?_
    refine evT (by omega) (evT (by omega) (evT (by omega) ?_))
    rw [h2]
    have hn := nby_ev l[i] ⟨#[120]⟩ (by decide) (fun x hx => by
      obtain ⟨q, hq, rfl⟩ := List.getElem_of_mem hx
      have hi6 := sto_i64 hok
      have e2 := hok.1
      rcases (show q = 0 ∨ q = 1 by omega) with rfl | rfl
      · have := hi6.1; rwa [show rd l[i] 0 = l[i][0] from getD_eq _ _ _ (by omega)] at this
      · have := hi6.2; rwa [show rd l[i] 1 = l[i][1] from getD_eq _ _ _ (by omega)] at this) (by have := hok.1; omega)
    rw [sto_join hok] at hn
    refine Ev.bind hn ?_
    refine evT (by rw [List.length_map, List.length_take]; omega) ?_
    have e : (l.take i).map stoB ++ [stoB l[i]] = (l.take (i + 1)).map stoB := by rw [take_succ' l i (by omega), List.map_append]; rfl
    rw [w64s i (by omega), e]
    exact ih (i + 1) (by omega)
def sLineB (l : List (List Int)) : ByteArray := if (decide (l.length ≤ 20) && l.all impl_StoreOk.row) = true then storeB (impl_SortStore.sorted l) else ⟨#[110, 111, 110, 101]⟩
theorem sto_oks {l : List (List Int)} (h : (decide (l.length ≤ 20) && l.all impl_StoreOk.row) = true) : l.length ≤ 20 ∧ (∀ r ∈ l, impl_SortStore.ok r) ∧ l.all impl_StoreOk.row = true := by
  rw [Bool.and_eq_true, decide_eq_true_eq] at h
  exact ⟨h.1, fun r hr => impl_SortStore.ok_of (List.all_eq_true.1 h.2 r hr), h.2⟩
theorem sto_sorted_ok {l : List (List Int)} (h : ∀ r ∈ l, impl_SortStore.ok r) : ∀ r ∈ impl_SortStore.sorted l, impl_SortStore.ok r := fun r hr => h r ((List.mergeSort_perm _ _).mem_iff.1 hr)
theorem spec_sline_ev (l : List (List Int)) (hl : l.length ≤ 1048576) : Ev (fun k => spec_StoreLine.f k l) (sLineB l) := by
  unfold spec_StoreLine.f sLineB
  refine Ev.bind (spec_store_ev l hl) ?_
  by_cases c : (decide (l.length ≤ 20) && l.all impl_StoreOk.row) = true
  · rw [if_pos c]
    have hk := sto_oks c
    refine evT c ?_
    have hs : Ev (fun k => spec_SortStore.f k l) (impl_SortStore.sorted l) := by
      unfold spec_SortStore.f
      refine Ev.bind (spec_store_ev l hl) (evT c (evT ⟨hk.2.2, hk.1⟩ ?_))
      rw [sto_same l hk.2.1]
      exact evSome _
    refine Ev.bind hs ?_
    have := spec_sline_l0 (impl_SortStore.sorted l) (sto_sorted_ok hk.2.1) (by rw [impl_SortStore.sorted_len]; omega) (impl_SortStore.sorted l).length 0 (by omega)
    exact this
  · rw [if_neg c]
    exact evF c (evSome _)
theorem impl_sline_ev (l : List (List Int)) (hl : l.length ≤ 1048576) (hx : ∀ x ∈ l, x.length ≤ 1048576) : Ev (fun k => impl_StoreLine.f k l) (sLineB l) := by
  unfold impl_StoreLine.f sLineB
  have h0 : impl_StoreOk.f l = some (decide (l.length ≤ 20) && l.all impl_StoreOk.row) := rfl
  refine evB h0 ?_
  by_cases c : (decide (l.length ≤ 20) && l.all impl_StoreOk.row) = true
  · rw [if_pos c]
    have hk := sto_oks c
    refine evT c ?_
    have hs : Ev (fun k => impl_SortStore.f k l) (impl_SortStore.sorted l) := by
      unfold impl_SortStore.f
      exact evB h0 (evT c (Ev.bind (copyLists_ev l hl hx) (evT rfl (evSome _))))
    refine Ev.bind hs ?_
    have := impl_sline_l0 (impl_SortStore.sorted l) (sto_sorted_ok hk.2.1) (by rw [impl_SortStore.sorted_len]; omega) (impl_SortStore.sorted l).length 0 (by omega)
    exact this
  · rw [if_neg c]
    exact evF c (evSome _)

theorem FnExactStoreLine : ∀ (l0 : List (List (Int))), (l0.length ≤ 9223372036854775807 ∧ ∀ x ∈ l0, (x.length ≤ 9223372036854775807 ∧ ∀ y ∈ x, Opens.I64 y)) → ∃ k, laws_FnExactStoreLine.f k l0 = some true := by
  intro s g0
  refine Ev.rounds (g := fun k => laws_FnExactStoreLine.f k s) ?_
  unfold laws_FnExactStoreLine.f
  rcases szIntSS_ev s 1048576 (by omega) (by omega) g0.1 (fun x hx => (g0.2 x hx).1) with h | ⟨b, h, hb, _, hl, hx⟩
  · exact Ev.bind h (evT (by omega) (evSome _))
  · refine Ev.bind h (evF (by omega) ?_)
    have hT := toIntSS_ev s hl hx
    refine Ev.bind hT (Ev.bind (spec_sline_ev s hl) (Ev.bind hT (Ev.bind (impl_sline_ev s hl hx) (evT rfl (Ev.bind hT ?_)))))
    exact Ev.bind (eqIntSS_ev s hl hx) (evT rfl (evSome _))

end Go.Proofs.YtelhjgkjnlcomaaDoor.Pure
