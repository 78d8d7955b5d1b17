/- FnExactParsePoints: for every string, ParsePoints of the program and of the reference answer alike, and what is handed back is the caller's own. No condition. -/
import Derived.Test.YtpmpcaahbhdiiaaDoorQFnExactParsePointsx6
import Derived.Test.YtpmpcaahbhdiiaaDoorOpens
namespace Go.Proofs.YtpmpcaahbhdiiaaDoor.Pure
open Go.RowKit Go.Proofs.YtpmpcaahbhdiiaaDoor Go.Proofs.YtpmpcaahbhdiiaaDoor.QFnExactParsePoints Go.Proofs.YtpmpcaahbhdiiaaDoorW.PrintWords Go.Proofs.YtpmpcaahbhdiiaaDoorW.PrintLast
set_option linter.unusedVariables false
set_option linter.unusedSimpArgs false

/-! base -/
theorem w64 {x : Int} (h0 : -9223372036854775808 ≤ x) (h1 : x ≤ 9223372036854775807) : wrap64 x = x := by unfold wrap64; omega
theorem w64n (n : Nat) (h : n ≤ 9223372036854775807) : wrap64 (n : Int) = n := w64 (by omega) (by omega)
theorem w64s (n : Nat) (h : n < 9223372036854775807) : wrap64 ((n : Int) + 1) = ((n + 1 : Nat) : Int) := by rw [w64 (by omega) (by omega)]; omega
theorem evSome {α : Type} (r : α) : Ev (fun _ : Nat => some r) r := ⟨0, fun _ _ => rfl⟩
theorem evOf {α : Type} {f : Option α} {r : α} (h : f = some r) : Ev (fun _ : Nat => f) r := ⟨0, fun _ _ => h⟩
theorem evUniq {α : Type} {g : Nat → Option α} {r q : α} (h : Ev g r) (k : Ev g q) : r = q := by
  obtain ⟨a, ha⟩ := h
  obtain ⟨b, hb⟩ := k
  have h1 := ha (a + b) (by omega)
  rw [hb (a + b) (by omega)] at h1
  exact (Option.some.inj h1).symm
theorem evIf {α : Type} {c : Prop} [Decidable c] {f g : Nat → Option α} {r : α} (hp : c → Ev f r) (hn : ¬ c → Ev g r) : Ev (fun k => if c then f k else g k) r := by
  by_cases h : c
  · simp only [if_pos h]; exact hp h
  · simp only [if_neg h]; exact hn h
theorem evT {α : Type} {c : Prop} [Decidable c] {f g : Nat → Option α} {r : α} (h : c) (hp : Ev f r) : Ev (fun k => if c then f k else g k) r := by
  simp only [if_pos h]; exact hp
theorem evF {α : Type} {c : Prop} [Decidable c] {f g : Nat → Option α} {r : α} (h : ¬ c) (hp : Ev g r) : Ev (fun k => if c then f k else g k) r := by
  simp only [if_neg h]; exact hp
theorem evB {α β : Type} {f : Option α} {g : Nat → α → Option β} {a : α} {r : β} (h : f = some a) (k : Ev (fun n => g n a) r) : Ev (fun n => f.bind (g n)) r := by
  subst h
  exact k
theorem getD_eq {α : Type} (l : List α) (i : Nat) (z : α) (h : i < l.length) : l.getD i z = l[i] := by
  rw [List.getD_eq_getElem?_getD, List.getElem?_eq_getElem h]; rfl
theorem take_succ' {α : Type} (l : List α) (i : Nat) (h : i < l.length) : l.take (i + 1) = l.take i ++ [l[i]] := by
  rw [List.take_succ_eq_append_getElem h]
theorem set_fill {α : Type} (l : List α) (z x : α) (i d : Nat) (hi : l.length = i) : (l ++ List.replicate (d + 1) z).set i x = l ++ [x] ++ List.replicate d z := by
  subst hi
  rw [List.set_append_right _ _ (Nat.le_refl _), Nat.sub_self, List.replicate_succ, List.set_cons_zero, List.append_assoc]
  rfl
theorem drop_cons {α : Type} (l : List α) (i : Nat) (h : i < l.length) : l.drop i = l[i] :: l.drop (i + 1) := List.drop_eq_getElem_cons h
/-! down -/
theorem down {P : Nat → Prop} (n : Nat) (h0 : P n) (hs : ∀ i, i < n → P (i + 1) → P i) : ∀ i, i ≤ n → P i := by
  intro i hi
  obtain ⟨d, hd⟩ : ∃ d, i + d = n := ⟨n - i, by omega⟩
  induction d generalizing i with
  | zero => have : i = n := by omega
            subst this; exact h0
  | succ d ih => exact hs i (by omega) (ih (i + 1) (by omega) (by omega))
/-! rdP -/
theorem rdP (l : List S51) (i : Nat) (h : i < l.length) : rd_T51 l (i : Int) = l[i] := by
  unfold rd_T51; rw [show ((i : Int)).toNat = i from by omega]; exact getD_eq _ _ _ h
/-! laws_eqPointS -/
theorem eqPoint_same (x y : Int) : laws_eqPoint.f x y x y = some true := by unfold laws_eqPoint.f; rw [if_pos rfl, if_pos rfl]
theorem eqPointS_l0 (l : List S51) (hl : l.length ≤ 9223372036854775806) : ∀ i, i ≤ l.length → Ev (fun k => laws_eqPointS.l0 k l l (i : Int)) true := by
  refine down l.length ?_ ?_
  · refine Ev.step (fun k => by rw [laws_eqPointS.l0]) ?_
    exact evF (by omega) (evSome _)
  · intro i hi ih
    refine Ev.step (fun k => by rw [laws_eqPointS.l0]) ?_
    refine evT (by omega) (evT (by omega) (evT (by omega) (evB (eqPoint_same _ _) (evT rfl ?_))))
    rw [w64s i (by omega)]
    exact ih
theorem eqPointS_ev (l : List S51) (hl : l.length ≤ 1048576) : Ev (fun k => laws_eqPointS.f k l l) true := by
  unfold laws_eqPointS.f
  exact evT rfl (by simpa using eqPointS_l0 l (by omega) 0 (by omega))
/-! laws_markPointS -/
theorem set_mid' {α : Type} (a b : List α) (x : α) (i : Nat) (hi : a.length = i) (hb : i < b.length) : (a ++ b.drop i).set i x = (a ++ [x]) ++ b.drop (i + 1) := by
  subst hi
  rw [List.set_append_right _ _ (Nat.le_refl _), Nat.sub_self, List.drop_eq_getElem_cons hb, List.set_cons_zero, List.append_assoc]
  rfl
theorem set_mid2 {α : Type} (a r : List α) (e x : α) (i : Nat) (hi : a.length = i) : ((a ++ [e]) ++ r).set i x = (a ++ [x]) ++ r := by
  subst hi
  rw [List.append_assoc, List.set_append_right _ _ (Nat.le_refl _), Nat.sub_self, List.append_assoc]
  rfl
theorem rd_mid2 (a r : List S51) (e : S51) (i : Nat) (hi : a.length = i) : rd_T51 ((a ++ [e]) ++ r) (i : Int) = e := by
  subst hi
  rw [rdP _ _ (by simp)]
  simp
def markP (m : Nat) (n : Nat) : List S51 := (List.range n).map (fun i => ⟨((m + 2 * i : Nat) : Int), ((m + 2 * i + 1 : Nat) : Int)⟩)
theorem markP_length (m n : Nat) : (markP m n).length = n := by simp [markP]
theorem markP_get (m n i : Nat) (h : i < (markP m n).length) : (markP m n)[i] = ⟨((m + 2 * i : Nat) : Int), ((m + 2 * i + 1 : Nat) : Int)⟩ := by simp [markP]
theorem markP_succ (m i : Nat) : markP m (i + 1) = markP m i ++ [⟨((m + 2 * i : Nat) : Int), ((m + 2 * i + 1 : Nat) : Int)⟩] := by simp [markP, List.range_succ]
theorem markPointS_l0 (l : List S51) (m : Nat) (hm : m + 2 * l.length ≤ 9223372036854775800) : ∀ i, i ≤ l.length → Ev (fun k => laws_markPointS.l0 k (markP m i ++ l.drop i) ((m + 2 * i : Nat) : Int) (i : Int)) (((m + 2 * l.length : Nat) : Int), markP m l.length) := by
  refine down l.length ?_ ?_
  · refine Ev.step (fun k => by rw [laws_markPointS.l0]) ?_
    refine evF (by simp [markP]) ?_
    rw [List.drop_length, List.append_nil]
    exact evSome _
  · intro i hi ih
    refine Ev.step (fun k => by rw [laws_markPointS.l0]) ?_
    refine evT (by simp [markP]; omega) (evT (by omega) (evB rfl ?_))
    rw [w64s i (by omega), w64s (m + 2 * i) (by omega), w64s (m + 2 * i + 1) (by omega), show ((i : Int)).toNat = i from by omega, set_mid' _ _ _ _ (markP_length m i) hi, rd_mid2 _ _ _ i (markP_length m i), set_mid2 _ _ _ _ i (markP_length m i), ← markP_succ]
    exact ih
theorem markPointS_ev (l : List S51) (m : Nat) (hm : m + 2 * l.length ≤ 9223372036854775800) : Ev (fun k => laws_markPointS.f k l (m : Int)) (((m + 2 * l.length : Nat) : Int), markP m l.length) := by
  unfold laws_markPointS.f
  have h := markPointS_l0 l m hm 0 (by omega)
  simpa [markP] using h
/-! laws_heldPointS -/
theorem heldPointS_l0 (m n : Nat) (hm : m + 2 * n ≤ 9223372036854775800) : ∀ i, i ≤ n → Ev (fun k => laws_heldPointS.l0 k (markP m n) ((m + 2 * i : Nat) : Int) (i : Int)) ((m + 2 * n : Nat) : Int) := by
  refine down n ?_ ?_
  · refine Ev.step (fun k => by rw [laws_heldPointS.l0]) ?_
    exact evF (by simp [markP]) (evSome _)
  · intro i hi ih
    have hr : rd_T51 (markP m n) (i : Int) = ⟨((m + 2 * i : Nat) : Int), ((m + 2 * i + 1 : Nat) : Int)⟩ := by rw [rdP _ i (by simp [markP]; omega), markP_get]
    refine Ev.step (fun k => by rw [laws_heldPointS.l0]) ?_
    refine evT (by simp [markP]; omega) (evT (by omega) ?_)
    rw [hr, w64s i (by omega), w64s (m + 2 * i) (by omega), w64s (m + 2 * i + 1) (by omega)]
    exact evT rfl (evT rfl ih)
theorem heldPointS_ev (m n : Nat) (hm : m + 2 * n ≤ 9223372036854775800) : Ev (fun k => laws_heldPointS.f k (markP m n) (m : Int)) ((m + 2 * n : Nat) : Int) := by
  unfold laws_heldPointS.f
  exact heldPointS_l0 m n hm 0 (by omega)
/-! btData -/
theorem bt_data (s : ByteArray) (i : Nat) (h : i < s.data.toList.length) : bt s (i : Int) = ((s.data.toList[i]).toNat : Int) := by
  unfold bt
  rw [show ((i : Int)).toNat = i from by omega]
  have h2 : i < s.size := by simpa using h
  rw [dif_pos h2]
  simp [ByteArray.getElem_eq_getElem_data]
theorem size_data (s : ByteArray) : s.data.toList.length = s.size := by simp
/-! fmtBase -/
def I64' (x : Int) : Prop := -9223372036854775808 ≤ x ∧ x ≤ 9223372036854775807
def itob (n : Int) : ByteArray := ⟨(Lib.itoa n).toArray⟩
theorem ba_ext {a b : ByteArray} (h : a.data.toList = b.data.toList) : a = b := by
  obtain ⟨⟨a⟩⟩ := a
  obtain ⟨⟨b⟩⟩ := b
  exact congrArg (fun l => (⟨⟨l⟩⟩ : ByteArray)) h
theorem ba_size (l : List UInt8) : (⟨l.toArray⟩ : ByteArray).size = l.length := by show l.toArray.size = _; exact List.size_toArray
theorem ba_size' (b : ByteArray) : b.size = b.data.toList.length := by rw [Array.length_toList]; rfl
theorem ba_app (a b : List UInt8) : (⟨a.toArray⟩ : ByteArray) ++ (⟨b.toArray⟩ : ByteArray) = ⟨(a ++ b).toArray⟩ := by
  apply ba_ext
  rw [ByteArray.data_append, Array.toList_append]
theorem ba_app_l (a b : ByteArray) : (a ++ b).data.toList = a.data.toList ++ b.data.toList := by rw [ByteArray.data_append, Array.toList_append]
theorem itob_data (n : Int) : (itob n).data.toList = Lib.itoa n := rfl
theorem one_num (d : Nat) (h : d < 10) : strOfNums [((48 + d : Nat) : Int)] = ⟨([UInt8.ofNat (48 + d)] : List UInt8).toArray⟩ := by
  apply ba_ext
  rw [strOfNums_data, List.map_cons, List.map_nil, Int.toNat_natCast]
theorem dec_len : ∀ (k u : Nat), 1 ≤ k → u < 10 ^ k → (Lib.decDigits u).length ≤ k
  | 0, u, h, _ => by omega
  | k + 1, u, _, h => by
    rw [Lib.decDigits]
    split
    · simp
    · rename_i h9
      rw [List.length_append, List.length_singleton]
      have hk : 1 ≤ k := by
        cases k with
        | zero => simp at h; omega
        | succ k => omega
      have := dec_len k (u / 10) hk (by rw [Nat.pow_succ] at h; omega)
      omega
theorem itoa_len (n : Int) (h : I64' n) : (Lib.itoa n).length ≤ 20 := by
  unfold I64' at h
  unfold Lib.itoa
  split
  · have := dec_len 19 n.natAbs (by decide) (by omega)
    rw [List.length_cons]; omega
  · have := dec_len 19 n.toNat (by decide) (by omega)
    omega
/-! fmtInt -/
theorem one_ch (u : Nat) (h9 : u < 10) : (wrap64 (48 + (u : Int))) % 256 = ((48 + u : Nat) : Int) := by rw [w64 (by omega) (by omega)]; omega
theorem fmt_l0 : ∀ (m : Nat) (u : Nat) (acc : List UInt8), u < 10 ^ (m + 1) → acc.length + m ≤ 1000 → u < 9223372036854775808 → Ev (fun k => spec_FormatInt.l0 k (u : Int) ⟨acc.toArray⟩) ⟨(Lib.decDigits u ++ acc).toArray⟩ := by
  intro m
  induction m with
  | zero =>
    intro u acc hu h2 h1
    have h9 : u < 10 := by simpa using hu
    refine Ev.step (fun k => by rw [spec_FormatInt.l0]) ?_
    refine evF (by omega) ?_
    rw [one_ch u h9]
    refine evB rfl ?_
    rw [one_num u h9]
    refine evT (by rw [ba_size, ba_size]; simp; omega) ?_
    rw [ba_app, Lib.decDigits, dif_pos h9]
    exact evSome _
  | succ m ih =>
    intro u acc hu h2 h1
    refine Ev.step (fun k => by rw [spec_FormatInt.l0]) ?_
    by_cases h9 : u < 10
    · refine evF (by omega) ?_
      rw [one_ch u h9]
      refine evB rfl ?_
      rw [one_num u h9]
      refine evT (by rw [ba_size, ba_size]; simp; omega) ?_
      rw [ba_app, Lib.decDigits, dif_pos h9]
      exact evSome _
    · refine evT (by omega) ?_
      have e0 : Int.tmod (u : Int) 10 = ((u % 10 : Nat) : Int) := by rw [Int.tmod_eq_emod_of_nonneg (by omega)]; omega
      have e1 : Int.tdiv (u : Int) 10 = ((u / 10 : Nat) : Int) := by rw [Int.tdiv_eq_ediv_of_nonneg (by omega)]; omega
      rw [e0, e1, one_ch _ (by omega), w64 (x := ((u / 10 : Nat) : Int)) (by omega) (by omega)]
      refine evB rfl ?_
      rw [one_num (u % 10) (by omega)]
      refine evT (by rw [ba_size, ba_size]; simp; omega) ?_
      rw [ba_app]
      have := ih (u / 10) ([UInt8.ofNat (48 + u % 10)] ++ acc) (by rw [Nat.pow_succ] at hu; omega) (by simp; omega) (by omega)
      rw [Lib.decDigits, dif_neg h9, List.append_assoc]
      exact this
theorem fmt_neg : ∀ (m : Nat) (u : Nat), 1 ≤ u → u < 10 ^ (m + 1) → u ≤ 9223372036854775808 → m ≤ 30 → Ev (fun k => spec_FormatInt.f k (-(u : Int))) ⟨(45 :: Lib.decDigits u).toArray⟩ := by
  intro m
  induction m with
  | zero =>
    intro u h0 hu h1 hm
    have h9 : u < 10 := by simpa using hu
    refine Ev.step (fun k => by rw [spec_FormatInt.f]) ?_
    refine evT (by omega) ?_
    have e1 : Int.tdiv (-(u : Int)) 10 = 0 := by rw [Int.neg_tdiv, Int.tdiv_eq_ediv_of_nonneg (by omega)]; omega
    rw [e1]
    refine evT (w64 (by omega) (by omega)) ?_
    have e : (48 - (-(u : Int))) = 48 + (u : Int) := by omega
    rw [e, one_ch u h9]
    refine evB rfl ?_
    rw [one_num u h9]
    refine evT (by rw [ba_size]; simp) ?_
    rw [Lib.decDigits, dif_pos h9]
    exact evSome _
  | succ m ih =>
    intro u h0 hu h1 hm
    refine Ev.step (fun k => by rw [spec_FormatInt.f]) ?_
    refine evT (by omega) ?_
    have e1 : Int.tdiv (-(u : Int)) 10 = -((u / 10 : Nat) : Int) := by rw [Int.neg_tdiv, Int.tdiv_eq_ediv_of_nonneg (by omega)]; omega
    have e0 : Int.tmod (-(u : Int)) 10 = -((u % 10 : Nat) : Int) := by rw [Int.neg_tmod, Int.tmod_eq_emod_of_nonneg (by omega)]; omega
    rw [e1, e0, w64 (x := -((u / 10 : Nat) : Int)) (by omega) (by omega)]
    by_cases h9 : u < 10
    · refine evT (by omega) ?_
      have e : (48 - (-(u : Int))) = 48 + (u : Int) := by omega
      rw [e, one_ch u h9]
      refine evB rfl ?_
      rw [one_num u h9]
      refine evT (by rw [ba_size]; simp) ?_
      rw [Lib.decDigits, dif_pos h9]
      exact evSome _
    · refine evF (by omega) ?_
      refine Ev.bind (ih (u / 10) (by omega) (by rw [Nat.pow_succ] at hu; omega) (by omega) (by omega)) ?_
      have e : (48 - (-((u % 10 : Nat) : Int))) = 48 + ((u % 10 : Nat) : Int) := by omega
      rw [e, one_ch _ (by omega)]
      refine evB rfl ?_
      rw [one_num (u % 10) (by omega)]
      have hl := dec_len (m + 1) (u / 10) (by omega) (by rw [Nat.pow_succ] at hu; omega)
      refine evT (by rw [ba_size, ba_size]; simp; omega) ?_
      rw [ba_app]
      have e3 : Lib.decDigits u = Lib.decDigits (u / 10) ++ [UInt8.ofNat (48 + u % 10)] := by rw [Lib.decDigits, dif_neg h9]
      rw [e3, ← List.cons_append]
      exact evSome _
theorem spec_fmt_ev (n : Int) (h : I64' n) : Ev (fun k => spec_FormatInt.f k n) (itob n) := by
  unfold I64' at h
  unfold itob Lib.itoa
  by_cases h0 : n < 0
  · rw [if_pos h0]
    have := fmt_neg 18 n.natAbs (by omega) (by omega) (by omega) (by omega)
    rwa [show -((n.natAbs : Nat) : Int) = n by omega] at this
  · rw [if_neg h0]
    refine Ev.step (fun k => by rw [spec_FormatInt.f]) ?_
    refine evF h0 ?_
    have := fmt_l0 18 n.toNat [] (by omega) (by simp) (by omega)
    rwa [show ((n.toNat : Nat) : Int) = n by omega, List.append_nil] at this
/-! splitBase -/
def mkB (l : List UInt8) : ByteArray := ⟨l.toArray⟩
theorem mkB_data (l : List UInt8) : (mkB l).data.toList = l := rfl
theorem mkB_size (l : List UInt8) : (mkB l).size = l.length := ba_size l
theorem mkB_of (b : ByteArray) : mkB b.data.toList = b := ba_ext rfl
def splA (c : UInt8) : List UInt8 → List UInt8 → List (List UInt8)
  | cur, [] => [cur]
  | cur, x :: xs => if x = c then cur :: splA c [] xs else splA c (cur ++ [x]) xs
def sp (c : UInt8) (s : List UInt8) : List (List UInt8) := splA c [] s
theorem splA_cons (c : UInt8) : ∀ (s cur : List UInt8), ∃ h t, sp c s = h :: t ∧ splA c cur s = (cur ++ h) :: t
  | [], cur => ⟨[], [], rfl, by simp [splA]⟩
  | x :: xs, cur => by
    unfold sp splA
    by_cases h : x = c
    · rw [if_pos h, if_pos h]
      exact ⟨[], _, rfl, by simp⟩
    · rw [if_neg h, if_neg h]
      obtain ⟨h1, t1, e1, e2⟩ := splA_cons c xs ([] ++ [x])
      obtain ⟨h2, t2, e3, e4⟩ := splA_cons c xs (cur ++ [x])
      rw [e1] at e3
      injection e3 with e5 e6
      subst e5 e6
      exact ⟨_, _, e2, by rw [e4]; simp⟩
theorem splA_len (c : UInt8) : ∀ (s cur : List UInt8), (splA c cur s).length ≤ s.length + 1
  | [], cur => by simp [splA]
  | x :: xs, cur => by
    unfold splA
    split
    · have := splA_len c xs []
      simp only [List.length_cons]
      omega
    · have := splA_len c xs (cur ++ [x])
      simp only [List.length_cons]
      omega
theorem splA_small (c : UInt8) : ∀ (s cur : List UInt8), ∀ x ∈ splA c cur s, x.length ≤ cur.length + s.length
  | [], cur => by simp [splA]
  | y :: ys, cur => by
    intro x hx
    unfold splA at hx
    split at hx
    · rcases List.mem_cons.1 hx with rfl | hx
      · simp
      · have := splA_small c ys [] x hx
        simp only [List.length_cons, List.length_nil] at this ⊢
        omega
    · have := splA_small c ys (cur ++ [y]) x hx
      simp only [List.length_cons, List.length_append, List.length_nil] at this ⊢
      omega
/-! splitImpl -/
theorem splitK_nil (c : UInt8) : Lib.splitK [c] 0 (Lib.count [] [c]) [] = [[]] := by
  rw [Lib.count_miss (by simp [Lib.index])]
  rfl
theorem splitK_ne (c b : UInt8) (l : List UInt8) (hb : b ≠ c) (k : Nat) : ∃ h t, Lib.splitK [c] 0 k l = h :: t ∧ Lib.splitK [c] 0 k (b :: l) = (b :: h) :: t := by
  have hp : ([c] : List UInt8).isPrefixOf (b :: l) = false := by simp [List.isPrefixOf, Ne.symm hb]
  have hix : Lib.index (b :: l) [c] = if Lib.index l [c] == -1 then -1 else Lib.index l [c] + 1 := by rw [Lib.index, hp]; simp
  cases k with
  | zero => exact ⟨l, [], rfl, rfl⟩
  | succ k =>
    unfold Lib.splitK
    by_cases hm : Lib.index l [c] = -1
    · have h2 : Lib.index (b :: l) [c] = -1 := by rw [hix, if_pos (beq_iff_eq.2 hm)]
      rw [if_pos (beq_iff_eq.2 hm), if_pos (beq_iff_eq.2 h2)]
      exact ⟨l, [], rfl, rfl⟩
    · have hge := Lib.index_ge l [c]
      have h2 : Lib.index (b :: l) [c] = Lib.index l [c] + 1 := by rw [hix, if_neg (fun e => hm (beq_iff_eq.1 e))]
      rw [if_neg (fun e => hm (beq_iff_eq.1 e)), if_neg (fun e => by have := beq_iff_eq.1 e; omega), h2]
      refine ⟨_, _, rfl, ?_⟩
      have e1 : (Lib.index l [c] + 1).toNat = (Lib.index l [c]).toNat + 1 := by omega
      rw [e1]
      congr 1
theorem splitK_sp (c : UInt8) : ∀ l : List UInt8, Lib.splitK [c] 0 (Lib.count l [c]) l = sp c l
  | [] => splitK_nil c
  | b :: l => by
    by_cases hb : b = c
    · subst hb
      rw [Lib.count_cons_eq, Nat.add_comm]
      have hix : Lib.index (b :: l) [b] = 0 := by rw [Lib.index]; simp [List.isPrefixOf]
      unfold Lib.splitK
      rw [hix]
      have e : ((0 : Int) == -1) = false := by decide
      rw [e]
      have h1 : sp b (b :: l) = [] :: sp b l := by unfold sp; rw [splA, if_pos rfl]
      rw [h1, ← splitK_sp b l]
      rfl
    · rw [Lib.count_cons_ne b c l hb]
      obtain ⟨h, t, e1, e2⟩ := splitK_ne c b l hb (Lib.count l [c])
      rw [splitK_sp c l] at e1
      have h1 : sp c (b :: l) = splA c [b] l := by unfold sp; rw [splA, if_neg hb]; rfl
      obtain ⟨h', t', e3, e4⟩ := splA_cons c l [b]
      rw [e1] at e3
      injection e3 with e5 e6
      subst e5 e6
      rw [e2, h1, e4]
      rfl
theorem splitB_sp (c : UInt8) (s : ByteArray) : Lib.splitB ⟨#[c]⟩ 0 (Lib.countB s ⟨#[c]⟩) s = (sp c s.data.toList).map mkB := by
  have h := Lib.splitB_data ⟨#[c]⟩ 0 (Lib.countB s ⟨#[c]⟩) s
  have h1 : Lib.splitK (⟨#[c]⟩ : ByteArray).data.toList 0 (Lib.countB s ⟨#[c]⟩) s.data.toList = sp c s.data.toList := splitK_sp c s.data.toList
  rw [h1] at h
  rw [← h, List.map_map]
  have : (mkB ∘ fun x : ByteArray => x.data.toList) = id := by funext b; exact mkB_of b
  rw [this, List.map_id]
theorem impl_split (c : UInt8) (s : ByteArray) (hs : s.size ≤ 1048576) : strings_Split.f s ⟨#[c]⟩ = some ((sp c s.data.toList).map mkB) := by
  unfold strings_Split.f
  rw [if_pos ⟨by omega, by show 1 ≤ (#[c]).size; exact Nat.le_refl _⟩, splitB_sp]
/-! splitSpec -/
def slc (s : ByteArray) (a b : Nat) : List UInt8 := (s.data.toList.drop a).take (b - a)
theorem extract_mkB (s : ByteArray) (a b : Nat) : s.extract a b = mkB (slc s a b) := Lib.extract_eq s a b
theorem slc_succ (s : ByteArray) (a b : Nat) (h : a ≤ b) (hb : b < s.data.toList.length) : slc s a (b + 1) = slc s a b ++ [s.data.toList[b]] := by
  unfold slc
  rw [show b + 1 - a = (b - a) + 1 by omega, List.take_succ_eq_append_getElem (by rw [List.length_drop]; omega)]
  congr 2
  rw [List.getElem_drop]
  congr 1
  omega
theorem slc_self (s : ByteArray) (a : Nat) : slc s a a = [] := by unfold slc; rw [Nat.sub_self]; rfl
theorem bt_sep (c : UInt8) : bt (⟨#[c]⟩ : ByteArray) 0 = (c.toNat : Int) := bt_data ⟨#[c]⟩ 0 (by show 0 < (#[c]).toList.length; simp)
theorem spec_split_l0 (c : UInt8) (s : ByteArray) (hs : s.size ≤ 1048576) : ∀ d i : Nat, i + d = s.size → ∀ (out : List ByteArray) (a : Nat), a ≤ i → out.length ≤ i →
    Ev (fun k => spec_SplitAny.l0 k s ⟨#[c]⟩ out (a : Int) (i : Int)) (out ++ (splA c (slc s a i) (s.data.toList.drop i)).map mkB) := by
  have hd := size_data s
  intro d
  induction d with
  | zero =>
    intro i hi out a ha ho
    refine Ev.step (fun k => by rw [spec_SplitAny.l0]) ?_
    refine evF (by omega) (evT (by omega) (evT (by omega) (evT (by omega) ?_)))
    rw [List.drop_of_length_le (by omega)]
    have e : s.extract ((a : Int)).toNat s.size = mkB (slc s a i) := by rw [show ((a : Int)).toNat = a by omega, extract_mkB, show s.size = i by omega]
    rw [e]
    exact evSome _
  | succ d ih =>
    intro i hi out a ha ho
    have hlt : i < s.data.toList.length := by omega
    refine Ev.step (fun k => by rw [spec_SplitAny.l0]) ?_
    refine evT (by omega) ?_
    have h1 : (1 : Int) = ((⟨#[c]⟩ : ByteArray).size : Int) := rfl
    refine Ev.step (fun k => by rw [spec_SplitAny.l1]) ?_
    refine evT (by rw [← h1]; decide) (evT (by omega) (evT (by omega) (evT (by decide) ?_)))
    rw [bt_sep, bt_data s i hlt, w64s i (by omega), List.drop_eq_getElem_cons hlt]
    by_cases hc : s.data.toList[i] = c
    · refine evT (by rw [hc]) (evT (by omega) (evT (by omega) (evT (by omega) (evT (by omega) ?_))))
      have := ih (i + 1) (by omega) (out ++ [mkB (slc s a i)]) (i + 1) (Nat.le_refl _) (by rw [List.length_append, List.length_singleton]; omega)
      rw [slc_self] at this
      rw [splA, if_pos hc, List.map_cons]
      rw [show ((a : Int)).toNat = a by omega, show ((i : Int)).toNat = i by omega, extract_mkB]
      rw [List.append_assoc] at this
      exact this
    · have hne : ¬ ((s.data.toList[i].toNat : Int) = (c.toNat : Int)) := by
        intro e
        apply hc
        apply UInt8.toNat_inj.1
        omega
      refine evF hne ?_
      have := ih (i + 1) (by omega) out a (by omega) (by omega)
      rw [slc_succ s a i ha hlt] at this
      rw [splA, if_neg hc]
      refine Ev.step (fun k => by rw [spec_SplitAny.l1]) ?_
      refine evF (by rw [← h1, w64 (by omega) (by omega)]; decide) ?_
      rw [w64s i (by omega)]
      exact this
theorem spec_split_ev (c : UInt8) (s : ByteArray) (hs : s.size ≤ 1048576) : Ev (fun k => spec_SplitAny.f k s ⟨#[c]⟩) ((sp c s.data.toList).map mkB) := by
  unfold spec_SplitAny.f
  have := spec_split_l0 c s hs s.size 0 (by omega) [] 0 (Nat.le_refl _) (Nat.le_refl _)
  rw [slc_self, List.nil_append, List.drop_zero] at this
  exact this
/-! digBase -/
def digs (l : List UInt8) : Bool := l.all fun c => decide (48 ≤ c.toNat) && decide (c.toNat ≤ 57)
def dv (a : Nat) (l : List UInt8) : Nat := l.foldl (fun a c => a * 10 + (c.toNat - 48)) a
theorem dv_ge : ∀ (l : List UInt8) (a : Nat), a ≤ dv a l
  | [], _ => Nat.le_refl _
  | c :: l, a => by
    have := dv_ge l (a * 10 + (c.toNat - 48))
    show a ≤ dv (a * 10 + (c.toNat - 48)) l
    omega
theorem dv_app (a : Nat) (l m : List UInt8) : dv a (l ++ m) = dv (dv a l) m := by unfold dv; rw [List.foldl_append]
theorem ch_dig (d : Nat) (h : d < 10) : (UInt8.ofNat (48 + d)).toNat = 48 + d := by
  rw [UInt8.toNat_ofNat']
  omega
theorem dec_digs : ∀ (n u : Nat), u ≤ n → digs (Lib.decDigits u) = true ∧ dv 0 (Lib.decDigits u) = u ∧ Lib.decDigits u ≠ []
  | 0, u, hu => by
    obtain rfl : u = 0 := by omega
    rw [Lib.decDigits]
    exact ⟨by decide, by decide, by decide⟩
  | n + 1, u, hu => by
    rw [Lib.decDigits]
    split
    · rename_i h9
      have := ch_dig u h9
      refine ⟨?_, ?_, by simp⟩
      · unfold digs
        rw [List.all_cons, List.all_nil, this]
        simp
        omega
      · show 0 * 10 + ((UInt8.ofNat (48 + u)).toNat - 48) = u
        rw [this]
        omega
    · rename_i h9
      obtain ⟨h1, h2, h3⟩ := dec_digs n (u / 10) (by omega)
      have := ch_dig (u % 10) (by omega)
      refine ⟨?_, ?_, by simp⟩
      · unfold digs at h1 ⊢
        rw [List.all_append, h1, List.all_cons, List.all_nil, this]
        simp
        omega
      · rw [dv_app, h2]
        show u / 10 * 10 + ((UInt8.ofNat (48 + u % 10)).toNat - 48) = u
        rw [this]
        omega
theorem puint (l : List UInt8) : ∀ a : Nat, digs l = true → dv a l < 18446744073709551616 → Lib.parseUint10 a l = .ok (dv a l) := by
  induction l with
  | nil => intro a _ _; rfl
  | cons c r ih =>
    intro a hd hv
    unfold digs at hd
    rw [List.all_cons, Bool.and_eq_true] at hd
    obtain ⟨hc, hr⟩ := hd
    simp only [Bool.and_eq_true, decide_eq_true_eq] at hc
    have hv' : dv (a * 10 + (c.toNat - 48)) r < 18446744073709551616 := hv
    have hge := dv_ge r (a * 10 + (c.toNat - 48))
    unfold Lib.parseUint10
    rw [if_pos hc, if_neg (by omega), if_neg (by omega)]
    exact ih _ hr hv'
theorem atoi_itoa (v : Int) (h : I64' v) : Lib.atoiAll (Lib.itoa v) = .ok v := by
  unfold I64' at h
  unfold Lib.itoa
  by_cases h0 : v < 0
  · rw [if_pos h0]
    obtain ⟨h1, h2, h3⟩ := dec_digs v.natAbs v.natAbs (Nat.le_refl _)
    have hp : Lib.parseMag (Lib.decDigits v.natAbs) = .ok v.natAbs := by
      unfold Lib.parseMag
      rw [if_neg h3, puint _ 0 h1 (by rw [h2]; omega), h2]
    unfold Lib.atoiAll
    simp only []
    rw [if_pos (by decide), hp]
    simp only []
    rw [if_neg (by rintro ⟨h4, _⟩; exact h4 (by decide)), if_neg (by rintro ⟨_, h5⟩; omega), if_pos (by decide)]
    congr 1
    omega
  · rw [if_neg h0]
    obtain ⟨h1, h2, h3⟩ := dec_digs v.toNat v.toNat (Nat.le_refl _)
    have hp : Lib.parseMag (Lib.decDigits v.toNat) = .ok v.toNat := by
      unfold Lib.parseMag
      rw [if_neg h3, puint _ 0 h1 (by rw [h2]; omega), h2]
    cases hl : Lib.decDigits v.toNat with
    | nil => exact absurd hl h3
    | cons c r =>
      have hc : 48 ≤ c.toNat ∧ c.toNat ≤ 57 := by
        rw [hl] at h1
        unfold digs at h1
        rw [List.all_cons, Bool.and_eq_true] at h1
        simpa using h1.1
      rw [hl] at hp
      unfold Lib.atoiAll
      simp only []
      rw [if_neg (by omega), hp]
      simp only []
      rw [if_neg (by rintro ⟨_, h5⟩; omega), if_neg (by rintro ⟨h5, _⟩; omega), if_neg (by omega)]
      congr 1
      omega
/-! parseInt -/
theorem val_yes (s : ByteArray) (v : Int) (h : I64' v) (e : Lib.itoa v = s.data.toList) : impl_ParseInt.val s = (v, true) := by
  unfold impl_ParseInt.val
  rw [← e, atoi_itoa v h]
  exact if_pos rfl
theorem val_no (s : ByteArray) (h : ∀ v, I64' v → Lib.itoa v ≠ s.data.toList) : impl_ParseInt.val s = (0, false) := by
  unfold impl_ParseInt.val
  cases h1 : Lib.atoiAll s.data.toList with
  | ok v =>
    simp only []
    rw [if_neg (h v (Lib.atoiAll_bounds h1))]
  | «syntax» => rfl
  | range => rfl
theorem impl_parse (s : ByteArray) (hs : s.size ≤ 1048576) : impl_ParseInt.f s = some (impl_ParseInt.val s) := by
  unfold impl_ParseInt.f
  rw [if_pos (by omega)]
theorem isdig_l0 (t : ByteArray) (hs : t.size ≤ 1048576) : ∀ d i : Nat, i + d = t.size → Ev (fun k => spec_IsDigits.l0 k t (i : Int)) (if digs (t.data.toList.drop i) = true then decide ((t.size : Int) > 0) else false) := by
  have hd := size_data t
  intro d
  induction d with
  | zero =>
    intro i hi
    refine Ev.step (fun k => by rw [spec_IsDigits.l0]) ?_
    refine evF (by omega) ?_
    rw [List.drop_of_length_le (by omega), if_pos (by rfl)]
    exact evSome _
  | succ d ih =>
    intro i hi
    have hlt : i < t.data.toList.length := by omega
    refine Ev.step (fun k => by rw [spec_IsDigits.l0]) ?_
    refine evT (by omega) (evT (by omega) ?_)
    rw [bt_data t i hlt, w64s i (by omega), List.drop_eq_getElem_cons hlt]
    have he : digs (t.data.toList[i] :: t.data.toList.drop (i + 1)) = ((decide (48 ≤ t.data.toList[i].toNat) && decide (t.data.toList[i].toNat ≤ 57)) && digs (t.data.toList.drop (i + 1))) := by unfold digs; rw [List.all_cons]
    by_cases h1 : t.data.toList[i].toNat < 48
    · refine evT (by omega) ?_
      rw [he, decide_eq_false (by omega)]
      exact evSome _
    · refine evF (by omega) ?_
      by_cases h2 : t.data.toList[i].toNat > 57
      · refine evT (by omega) ?_
        rw [he, decide_eq_false (p := t.data.toList[i].toNat ≤ 57) (by omega), Bool.and_false, Bool.false_and]
        exact evSome _
      · refine evF (by omega) ?_
        rw [he, decide_eq_true (by omega), decide_eq_true (by omega), Bool.and_true, Bool.true_and]
        exact ih (i + 1) (by omega)
def fin (s : ByteArray) (neg : Bool) (n : Nat) : Int × Bool :=
  if neg = true then (if Lib.itoa (-(n : Int)) = s.data.toList then (-(n : Int), true) else (0, false))
  else if n = 9223372036854775808 then (0, false) else if Lib.itoa (n : Int) = s.data.toList then ((n : Int), true) else (0, false)
theorem itob_list (n : Int) (s : ByteArray) : ((itob n).toList = s.toList) ↔ Lib.itoa n = s.data.toList := by
  rw [Lib.toList_data, Lib.toList_data]
  exact Iff.rfl
theorem parse_l0 (s t : ByteArray) (neg : Bool) (hs : t.size ≤ 1048576) : ∀ d i : Nat, i + d = t.size → ∀ a : Nat, a ≤ 9223372036854775808 → digs (t.data.toList.drop i) = true →
    Ev (fun k => spec_ParseInt.l0 k s neg t (-(a : Int)) (i : Int)) (if dv a (t.data.toList.drop i) ≤ 9223372036854775808 then fin s neg (dv a (t.data.toList.drop i)) else (0, false)) := by
  have hd := size_data t
  intro d
  induction d with
  | zero =>
    intro i hi a ha hg
    rw [List.drop_of_length_le (by omega)]
    have e0 : dv a [] = a := rfl
    rw [e0, if_pos ha]
    refine Ev.step (fun k => by rw [spec_ParseInt.l0]) ?_
    refine evF (by omega) ?_
    unfold fin
    cases neg with
    | true =>
      rw [if_pos rfl]
      refine evT rfl ?_
      refine Ev.bind (spec_fmt_ev _ (by unfold I64'; omega)) ?_
      by_cases hq : Lib.itoa (-(a : Int)) = s.data.toList
      · rw [if_pos hq]
        exact evT ((itob_list _ _).2 hq) (evSome _)
      · rw [if_neg hq]
        exact evF (fun e => hq ((itob_list _ _).1 e)) (evSome _)
    | false =>
      rw [if_neg (by decide)]
      refine evF (by decide) ?_
      by_cases hm : a = 9223372036854775808
      · rw [if_pos hm]
        exact evT (by omega) (evSome _)
      · rw [if_neg hm]
        refine evF (by omega) ?_
        rw [Int.neg_neg, w64 (by omega) (by omega)]
        refine Ev.bind (spec_fmt_ev _ (by unfold I64'; omega)) ?_
        by_cases hq : Lib.itoa (a : Int) = s.data.toList
        · rw [if_pos hq]
          exact evT ((itob_list _ _).2 hq) (evSome _)
        · rw [if_neg hq]
          exact evF (fun e => hq ((itob_list _ _).1 e)) (evSome _)
  | succ d ih =>
    intro i hi a ha hg
    have hlt : i < t.data.toList.length := by omega
    rw [List.drop_eq_getElem_cons hlt] at hg ⊢
    have hc : 48 ≤ t.data.toList[i].toNat ∧ t.data.toList[i].toNat ≤ 57 := by
      unfold digs at hg
      rw [List.all_cons, Bool.and_eq_true] at hg
      simpa using hg.1
    have hg' : digs (t.data.toList.drop (i + 1)) = true := by
      unfold digs at hg ⊢
      rw [List.all_cons, Bool.and_eq_true] at hg
      exact hg.2
    obtain ⟨c, hcd⟩ : ∃ c : Nat, t.data.toList[i].toNat = c := ⟨_, rfl⟩
    rw [hcd] at hc
    have hb := bt_data t i hlt
    rw [hcd] at hb
    have e1 : dv a (t.data.toList[i] :: t.data.toList.drop (i + 1)) = dv (a * 10 + (c - 48)) (t.data.toList.drop (i + 1)) := by rw [← hcd]; rfl
    have hge := dv_ge (t.data.toList.drop (i + 1)) (a * 10 + (c - 48))
    rw [e1]
    refine Ev.step (fun k => by rw [spec_ParseInt.l0]) ?_
    refine evT (by omega) (evT (by omega) ?_)
    rw [hb, w64 (x := (c : Int)) (by omega) (by omega), w64 (x := (c : Int) - 48) (by omega) (by omega), w64 (x := -9223372036854775808 + ((c : Int) - 48)) (by omega) (by omega)]
    have e2 : Int.tdiv (-9223372036854775808 + ((c : Int) - 48)) 10 = -(((9223372036854775808 - (c - 48)) / 10 : Nat) : Int) := by
      have e3 : (-9223372036854775808 + ((c : Int) - 48)) = -((9223372036854775808 - (c - 48) : Nat) : Int) := by omega
      rw [e3, Int.neg_tdiv, Int.tdiv_eq_ediv_of_nonneg (by omega)]
      omega
    rw [e2, w64 (x := -(((9223372036854775808 - (c - 48)) / 10 : Nat) : Int)) (by omega) (by omega)]
    by_cases hov : 9223372036854775808 < a * 10 + (c - 48)
    · refine evT (by omega) ?_
      rw [if_neg (by omega)]
      exact evSome _
    · refine evF (by omega) ?_
      rw [w64 (x := -(a : Int) * 10) (by omega) (by omega), w64 (x := -(a : Int) * 10 - ((c : Int) - 48)) (by omega) (by omega), w64s i (by omega)]
      have e4 : -(a : Int) * 10 - ((c : Int) - 48) = -((a * 10 + (c - 48) : Nat) : Int) := by omega
      rw [e4]
      exact ih (i + 1) (by omega) _ (by omega) hg'
def okT (t : List UInt8) : Bool := digs t && (decide (0 < t.length) && (decide (t.length ≤ 19) && decide (dv 0 t ≤ 9223372036854775808)))
theorem parse_j1 (s t : ByteArray) (neg : Bool) (hs : t.size ≤ 1048576) : Ev (fun k => spec_ParseInt.j1 k s neg t) (if okT t.data.toList = true then fin s neg (dv 0 t.data.toList) else (0, false)) := by
  have hd := size_data t
  refine Ev.step (fun k => by rw [spec_ParseInt.j1]) ?_
  have h0 := isdig_l0 t hs t.size 0 (by omega)
  rw [List.drop_zero] at h0
  have h1 : Ev (fun k => spec_IsDigits.f k t) (if digs t.data.toList = true then decide ((t.size : Int) > 0) else false) := by unfold spec_IsDigits.f; exact h0
  refine Ev.bind h1 ?_
  by_cases hg : digs t.data.toList = true
  · rw [if_pos hg]
    by_cases hz : 0 < t.size
    · refine evT (decide_eq_true (by omega)) ?_
      refine Ev.step (fun k => by rw [spec_ParseInt.j2]) ?_
      by_cases h19 : t.size > 19
      · refine evT (decide_eq_true (by omega)) ?_
        have : okT t.data.toList = false := by unfold okT; rw [decide_eq_false (p := t.data.toList.length ≤ 19) (by omega)]; simp
        rw [this]
        exact evSome _
      · refine evF (by rw [decide_eq_false (by omega)]; decide) ?_
        have := parse_l0 s t neg hs t.size 0 (by omega) 0 (by omega) (by rw [List.drop_zero]; exact hg)
        rw [List.drop_zero] at this
        by_cases hv : dv 0 t.data.toList ≤ 9223372036854775808
        · have h2 : okT t.data.toList = true := by unfold okT; rw [hg, decide_eq_true (by omega), decide_eq_true (by omega), decide_eq_true hv]; rfl
          rw [if_pos hv] at this
          rw [h2, if_pos rfl]
          exact this
        · have h2 : okT t.data.toList = false := by unfold okT; rw [decide_eq_false (p := dv 0 t.data.toList ≤ 9223372036854775808) hv]; simp
          rw [if_neg hv] at this
          rw [h2, if_neg (by decide)]
          exact this
    · refine evF (by rw [decide_eq_false (by omega)]; decide) ?_
      refine Ev.step (fun k => by rw [spec_ParseInt.j2]) ?_
      refine evT rfl ?_
      have : okT t.data.toList = false := by unfold okT; rw [decide_eq_false (p := 0 < t.data.toList.length) (by omega)]; simp
      rw [this]
      exact evSome _
  · rw [if_neg hg]
    refine evF (by decide) ?_
    refine Ev.step (fun k => by rw [spec_ParseInt.j2]) ?_
    refine evT rfl ?_
    have : okT t.data.toList = false := by unfold okT; rw [Bool.eq_false_iff.2 hg]; rfl
    rw [this]
    exact evSome _
theorem okT_dec (u : Nat) (h : u ≤ 9223372036854775808) : okT (Lib.decDigits u) = true ∧ dv 0 (Lib.decDigits u) = u := by
  obtain ⟨h1, h2, h3⟩ := dec_digs u u (Nat.le_refl _)
  have h4 := dec_len 19 u (by omega) (by omega)
  have h5 := List.length_pos_iff.2 h3
  refine ⟨?_, h2⟩
  unfold okT
  rw [h1, h2, decide_eq_true h5, decide_eq_true h4, decide_eq_true h]
  rfl
theorem fin_eq (s t : ByteArray) (neg : Bool) (ht : neg = true → s.data.toList = 45 :: t.data.toList) (hf : neg = false → t = s ∧ s.data.toList.head? ≠ some 45) :
    (if okT t.data.toList = true then fin s neg (dv 0 t.data.toList) else (0, false)) = impl_ParseInt.val s := by
  by_cases hv : ∃ v, I64' v ∧ Lib.itoa v = s.data.toList
  · obtain ⟨v, h, e⟩ := hv
    rw [val_yes s v h e]
    unfold I64' at h
    by_cases h0 : v < 0
    · have e1 : s.data.toList = 45 :: Lib.decDigits v.natAbs := by rw [← e]; unfold Lib.itoa; rw [if_pos h0]
      cases neg with
      | false => exact absurd (by rw [e1]; rfl) (hf rfl).2
      | true =>
        have e2 := ht rfl
        rw [e1] at e2
        injection e2 with _ e3
        obtain ⟨h1, h2⟩ := okT_dec v.natAbs (by omega)
        rw [← e3, h1, if_pos rfl, h2]
        unfold fin
        have e4 : (-((v.natAbs : Nat) : Int)) = v := by omega
        rw [if_pos rfl, e4, if_pos e]
    · have e1 : s.data.toList = Lib.decDigits v.toNat := by rw [← e]; unfold Lib.itoa; rw [if_neg h0]
      obtain ⟨h1, h2⟩ := okT_dec v.toNat (by omega)
      cases neg with
      | true =>
        have e2 := ht rfl
        have hg := (dec_digs v.toNat v.toNat (Nat.le_refl _)).1
        rw [← e1, e2] at hg
        unfold digs at hg
        rw [List.all_cons] at hg
        exact absurd hg (by simp)
      | false =>
        obtain ⟨rfl, _⟩ := hf rfl
        rw [e1, h1, if_pos rfl, h2]
        unfold fin
        have e4 : ((v.toNat : Nat) : Int) = v := by omega
        rw [if_neg (by decide), if_neg (by omega), e4, if_pos e]
  · have hn : ∀ v, I64' v → Lib.itoa v ≠ s.data.toList := fun v h e => hv ⟨v, h, e⟩
    rw [val_no s hn]
    split
    · rename_i ho
      have hb : dv 0 t.data.toList ≤ 9223372036854775808 := by
        unfold okT at ho
        simp only [Bool.and_eq_true, decide_eq_true_eq] at ho
        exact ho.2.2.2
      unfold fin
      split
      · rw [if_neg (hn _ (by unfold I64'; omega))]
      · split
        · rfl
        · rw [if_neg (hn _ (by unfold I64'; omega))]
    · rfl
theorem spec_parse_ev (s : ByteArray) (hs : s.size ≤ 1048576) : Ev (fun k => spec_ParseInt.f k s) (impl_ParseInt.val s) := by
  have hd := size_data s
  unfold spec_ParseInt.f
  by_cases hz : 0 < s.size
  · refine evT (by omega) (evT (by omega) ?_)
    have hlt : 0 < s.data.toList.length := by omega
    have hb := bt_data s 0 hlt
    have hb' : bt s 0 = ((s.data.toList[0]).toNat : Int) := hb
    rw [hb']
    refine Ev.step (fun k => by rw [spec_ParseInt.j0]) ?_
    by_cases h45 : s.data.toList[0] = 45
    · have e45 : (((s.data.toList[0]).toNat : Int) == 45) = true := by rw [h45]; rfl
      rw [e45]
      refine evT rfl (evT (by omega) ?_)
      rw [← fin_eq s (s.extract 1 s.size) true ?_ (fun h => by cases h)]
      · refine parse_j1 s _ true ?_
        rw [ByteArray.size_extract]
        omega
      · intro _
        rw [Lib.extract_data, List.take_of_length_le (by rw [List.length_drop]; omega)]
        have := List.drop_eq_getElem_cons hlt
        rw [List.drop_zero, h45] at this
        exact this
    · have e45 : (((s.data.toList[0]).toNat : Int) == 45) = false := by
        apply beq_eq_false_iff_ne.2
        intro e
        apply h45
        apply UInt8.toNat_inj.1
        have : (45 : UInt8).toNat = 45 := rfl
        omega
      rw [e45]
      refine evF (by decide) ?_
      rw [← fin_eq s s false (fun h => by cases h) ?_]
      · exact parse_j1 s s false hs
      · intro _
        refine ⟨rfl, ?_⟩
        rw [List.head?_eq_getElem?, List.getElem?_eq_getElem hlt]
        intro e
        exact h45 (Option.some.inj e)
  · refine evF (by omega) ?_
    refine Ev.step (fun k => by rw [spec_ParseInt.j0]) ?_
    refine evF (by decide) ?_
    rw [← fin_eq s s false (fun h => by cases h) ?_]
    · exact parse_j1 s s false hs
    · intro _
      refine ⟨rfl, ?_⟩
      have : s.data.toList = [] := List.eq_nil_of_length_eq_zero (by omega)
      rw [this]
      simp
/-! pnBase -/
def pall : List ByteArray → Option (List Int)
  | [] => some []
  | s :: r => if (impl_ParseInt.val s).2 = true then (pall r).map (fun l => (impl_ParseInt.val s).1 :: l) else none
def pnum (b : ByteArray) : List Int × Bool :=
  if b.data.toList = [45] then ([], true) else
  match pall ((sp 44 b.data.toList).map mkB) with
  | none => ([], false)
  | some l => if 40 < l.length then ([], false) else (l, true)
theorem pall_len : ∀ (w : List ByteArray) (l : List Int), pall w = some l → l.length = w.length
  | [], l, h => by unfold pall at h; injection h with h; subst h; rfl
  | s :: r, l, h => by
    unfold pall at h
    split at h
    · cases hr : pall r with
      | none => rw [hr] at h; cases h
      | some m =>
        rw [hr] at h
        injection h with h
        subst h
        rw [List.length_cons, List.length_cons, pall_len r m hr]
    · cases h
def padd (acc : List Int) (w : List ByteArray) : List Int × Bool :=
  match pall w with
  | none => ([], false)
  | some l => if 40 < acc.length + l.length then ([], false) else (acc ++ l, true)
theorem padd_no (acc : List Int) (s : ByteArray) (r : List ByteArray) (h : ¬ (impl_ParseInt.val s).2 = true) : padd acc (s :: r) = ([], false) := by
  unfold padd pall
  rw [if_neg h]
theorem padd_yes (acc : List Int) (s : ByteArray) (r : List ByteArray) (h : (impl_ParseInt.val s).2 = true) : padd acc (s :: r) = padd (acc ++ [(impl_ParseInt.val s).1]) r := by
  unfold padd
  rw [pall, if_pos h]
  cases hr : pall r with
  | none => rfl
  | some l =>
    show (if 40 < acc.length + ((impl_ParseInt.val s).1 :: l).length then _ else (acc ++ (impl_ParseInt.val s).1 :: l, true)) = (if 40 < (acc ++ [(impl_ParseInt.val s).1]).length + l.length then _ else ((acc ++ [(impl_ParseInt.val s).1]) ++ l, true))
    by_cases h40 : 40 < acc.length + (l.length + 1)
    · rw [if_pos (by rw [List.length_cons]; exact h40), if_pos (by rw [List.length_append, List.length_singleton]; omega)]
    · rw [if_neg (by rw [List.length_cons]; exact h40), if_neg (by rw [List.length_append, List.length_singleton]; omega), List.append_assoc]
      rfl
theorem padd_full (acc : List Int) (w : List ByteArray) (h : 40 < acc.length + w.length) : padd acc w = ([], false) := by
  unfold padd
  cases hr : pall w with
  | none => rfl
  | some l =>
    have := pall_len w l hr
    simp only []
    rw [if_pos (by omega)]
theorem rdS (l : List ByteArray) (i : Nat) (h : i < l.length) : rdOf ByteArray.empty l (i : Int) = l[i] := by
  unfold rdOf; rw [show ((i : Int)).toNat = i from by omega]; exact getD_eq _ _ _ h
theorem padd_nil (w : List ByteArray) (b : ByteArray) (h : ¬ b.data.toList = [45]) (e : w = (sp 44 b.data.toList).map mkB) : padd [] w = pnum b := by
  subst e
  unfold padd pnum
  rw [if_neg h]
  cases pall ((sp 44 b.data.toList).map mkB) with
  | none => rfl
  | some l => simp
theorem sp_words (c : UInt8) (b : ByteArray) (hb : b.size ≤ 1048576) : ((sp c b.data.toList).map mkB).length ≤ 1048577 ∧ ∀ x ∈ (sp c b.data.toList).map mkB, x.size ≤ 1048576 := by
  have hd := size_data b
  refine ⟨?_, ?_⟩
  · rw [List.length_map]
    have := splA_len c b.data.toList []
    unfold sp
    omega
  · intro x hx
    obtain ⟨y, hy, rfl⟩ := List.mem_map.1 hx
    have := splA_small c b.data.toList [] y hy
    rw [mkB_size]
    simp only [List.length_nil] at this
    omega
theorem dash_list (b : ByteArray) : (b.toList = ([45] : List UInt8)) ↔ b.data.toList = [45] := by rw [Lib.toList_data]
theorem pnum_len (b : ByteArray) : (pnum b).1.length ≤ 40 := by
  unfold pnum
  split
  · simp
  · split
    · simp
    · split
      · simp
      · simp only []; omega
/-! pnSpec -/
theorem spec_pn_l0 (w : List ByteArray) (hw : w.length ≤ 1048577) (hs : ∀ x ∈ w, x.size ≤ 1048576) : ∀ d i : Nat, i + d = w.length → ∀ acc : List Int, acc.length = i → Ev (fun k => spec_ParseNumbers.l0 k acc w (w.length : Int) (i : Int)) (padd acc (w.drop i)) := by
  intro d
  induction d with
  | zero =>
    intro i hi acc ha
    refine Ev.step (fun k => by rw [spec_ParseNumbers.l0]) ?_
    refine evF (by omega) ?_
    rw [List.drop_of_length_le (by omega)]
    have e : padd acc [] = if 40 < acc.length then ([], false) else (acc, true) := by unfold padd pall; simp
    rw [e]
    by_cases h : 40 < acc.length
    · rw [if_pos h]; exact evT (by omega) (evSome _)
    · rw [if_neg h]; exact evF (by omega) (evSome _)
  | succ d ih =>
    intro i hi acc ha
    refine Ev.step (fun k => by rw [spec_ParseNumbers.l0]) ?_
    refine evT (by omega) (evT (by omega) (evT (by omega) ?_))
    rw [rdS w i (by omega), w64s i (by omega), List.drop_eq_getElem_cons (show i < w.length by omega)]
    refine Ev.bind (spec_parse_ev _ (hs _ (List.getElem_mem _))) ?_
    by_cases hv : (impl_ParseInt.val w[i]).2 = true
    · rw [padd_yes _ _ _ hv]
      exact evT hv (evT (by omega) (ih (i + 1) (by omega) _ (by rw [List.length_append, List.length_singleton]; omega)))
    · rw [padd_no _ _ _ hv]
      exact evF hv (evSome _)
theorem spec_pn_ev (b : ByteArray) (hb : b.size ≤ 1048576) : Ev (fun k => spec_ParseNumbers.f k b) (pnum b) := by
  unfold spec_ParseNumbers.f
  refine evB rfl ?_
  by_cases h : b.data.toList = [45]
  · unfold pnum
    rw [if_pos h]
    exact evT ((dash_list b).2 h) (evSome _)
  · refine evF (fun e => h ((dash_list b).1 e)) ?_
    refine Ev.bind (spec_split_ev 44 b hb) ?_
    obtain ⟨h1, h2⟩ := sp_words 44 b hb
    rw [← padd_nil _ b h rfl]
    have := spec_pn_l0 _ h1 h2 _ 0 (Nat.zero_add _) [] rfl
    rw [List.drop_zero] at this
    exact this
/-! cutSp -/
theorem index_ne (c b : UInt8) (l : List UInt8) (hb : b ≠ c) : Lib.index (b :: l) [c] = if Lib.index l [c] == -1 then -1 else Lib.index l [c] + 1 := by
  have hp : ([c] : List UInt8).isPrefixOf (b :: l) = false := by simp [List.isPrefixOf, Ne.symm hb]
  rw [Lib.index, hp]
  simp
theorem sp_ne (c b : UInt8) (l : List UInt8) (hb : b ≠ c) : ∃ h t, sp c l = h :: t ∧ sp c (b :: l) = (b :: h) :: t := by
  have h1 : sp c (b :: l) = splA c [b] l := by unfold sp; rw [splA, if_neg hb]; rfl
  obtain ⟨h', t', e3, e4⟩ := splA_cons c l [b]
  exact ⟨h', t', e3, by rw [h1, e4]; rfl⟩
theorem sp_eq (c : UInt8) (l : List UInt8) : sp c (c :: l) = [] :: sp c l := by unfold sp; rw [splA, if_pos rfl]
theorem cut_sp (c : UInt8) : ∀ s : List UInt8, (Lib.cut s [c] = (s, [], false) ∧ sp c s = [s]) ∨ ∃ a r, Lib.cut s [c] = (a, r, true) ∧ sp c s = a :: sp c r ∧ s = a ++ c :: r
  | [] => .inl ⟨by unfold Lib.cut; rw [show Lib.index [] [c] = -1 by simp [Lib.index]]; rfl, rfl⟩
  | b :: l => by
    by_cases hb : b = c
    · subst hb
      have hix : Lib.index (b :: l) [b] = 0 := by rw [Lib.index]; simp [List.isPrefixOf]
      exact .inr ⟨[], l, by unfold Lib.cut; rw [hix]; rfl, sp_eq b l, rfl⟩
    · have hix := index_ne c b l hb
      obtain ⟨h, t, e1, e2⟩ := sp_ne c b l hb
      have hge := Lib.index_ge l [c]
      rcases cut_sp c l with ⟨h1, h2⟩ | ⟨a, r, h1, h2, h3⟩
      · left
        have hm : Lib.index l [c] = -1 := by
          unfold Lib.cut at h1
          split at h1
          · injection h1 with _ h4
            injection h4 with _ h5
            cases h5
          · omega
        rw [hm] at hix
        refine ⟨?_, ?_⟩
        · unfold Lib.cut
          rw [hix]
          rfl
        · rw [h2] at e1
          injection e1 with e3 e4
          rw [e2, ← e3, ← e4]
      · right
        have hj : 0 ≤ Lib.index l [c] ∧ l.take (Lib.index l [c]).toNat = a ∧ l.drop ((Lib.index l [c]).toNat + 1) = r := by
          unfold Lib.cut at h1
          split at h1
          · rename_i h0
            injection h1 with h4 h5
            injection h5 with h5 h6
            exact ⟨h0, h4, h5⟩
          · injection h1 with _ h4
            injection h4 with _ h5
            cases h5
        obtain ⟨h0, h4, h5⟩ := hj
        have hix2 : Lib.index (b :: l) [c] = Lib.index l [c] + 1 := by rw [hix, if_neg (fun e => by have := beq_iff_eq.1 e; omega)]
        have et : (Lib.index l [c] + 1).toNat = (Lib.index l [c]).toNat + 1 := by omega
        refine ⟨b :: a, r, ?_, ?_, by rw [h3]; rfl⟩
        · unfold Lib.cut
          rw [if_pos (by omega), hix2, et, List.take_succ_cons, h4]
          congr 1
          congr 1
        · rw [h2] at e1
          injection e1 with e3 e4
          rw [e2, ← e3, ← e4]
theorem digs_no (l : List UInt8) (h : digs l = true) (c : UInt8) (hc : c.toNat < 48) : c ∉ l := by
  intro hm
  unfold digs at h
  have := List.all_eq_true.1 h c hm
  simp only [Bool.and_eq_true, decide_eq_true_eq] at this
  omega
theorem itoa_nocomma (v : Int) : (44 : UInt8) ∉ Lib.itoa v := by
  unfold Lib.itoa
  split
  · intro hm
    rcases List.mem_cons.1 hm with h | h
    · exact absurd h (by decide)
    · exact digs_no _ (dec_digs _ _ (Nat.le_refl _)).1 44 (by decide) h
  · exact digs_no _ (dec_digs _ _ (Nat.le_refl _)).1 44 (by decide)
/-! parsePoints -/
def ptOf (s : ByteArray) : Option S51 :=
  if (Lib.cut s.data.toList [44]).2.2 = true ∧ (impl_ParseInt.val (mkB (Lib.cut s.data.toList [44]).1)).2 = true ∧ (impl_ParseInt.val (mkB (Lib.cut s.data.toList [44]).2.1)).2 = true
  then some ⟨(impl_ParseInt.val (mkB (Lib.cut s.data.toList [44]).1)).1, (impl_ParseInt.val (mkB (Lib.cut s.data.toList [44]).2.1)).1⟩ else none
theorem val_comma (r : List UInt8) (h : (44 : UInt8) ∈ r) : (impl_ParseInt.val (mkB r)).2 = false := by
  rw [val_no]
  intro v _ e
  rw [mkB_data] at e
  exact itoa_nocomma v (e ▸ h)
theorem ptOf_some (s : ByteArray) (h2 : (pnum s).2 = true) (h : (pnum s).1.length = 2) : ptOf s = some ⟨rd (pnum s).1 0, rd (pnum s).1 1⟩ := by
  unfold pnum at h2 h ⊢
  by_cases h45 : s.data.toList = [45]
  · rw [if_pos h45] at h
    simp at h
  · rw [if_neg h45] at h h2 ⊢
    cases hp : pall ((sp 44 s.data.toList).map mkB) with
    | none => rw [hp] at h2; simp at h2
    | some l =>
      rw [hp] at h h2
      simp only [] at h h2 ⊢
      split at h
      · simp at h
      · rename_i h40
        rw [if_neg h40]
        simp only [] at h ⊢
        have hl := pall_len _ _ hp
        rw [List.length_map, h] at hl
        rcases cut_sp 44 s.data.toList with ⟨_, e2⟩ | ⟨a, r, e1, e2, _⟩
        · rw [e2] at hl
          simp at hl
        · rw [e2, List.length_cons] at hl
          rcases cut_sp 44 r with ⟨_, e4⟩ | ⟨a2, r2, _, e4, _⟩
          · rw [e2, e4] at hp
            simp only [List.map_cons, List.map_nil] at hp
            unfold pall at hp
            split at hp
            · rename_i v1
              unfold pall at hp
              split at hp
              · rename_i v2
                unfold pall at hp
                simp only [Option.map_some, Option.some.injEq] at hp
                subst hp
                unfold ptOf
                rw [e1]
                rw [if_pos ⟨rfl, v1, v2⟩]
                rfl
              · cases hp
            · cases hp
          · rw [e4, List.length_cons] at hl
            obtain ⟨hh, tt, e5, _⟩ := splA_cons 44 r2 []
            rw [e5, List.length_cons] at hl
            omega
theorem ptOf_none (s : ByteArray) (h : ¬ ((pnum s).2 = true ∧ (pnum s).1.length = 2)) : ptOf s = none := by
  unfold ptOf
  apply if_neg
  rintro ⟨c1, c2, c3⟩
  apply h
  rcases cut_sp 44 s.data.toList with ⟨e1, _⟩ | ⟨a, r, e1, e2, e3⟩
  · rw [e1] at c1
    cases c1
  · rw [e1] at c2 c3
    have hr : (44 : UInt8) ∉ r := by
      intro hm
      have := val_comma r hm
      rw [this] at c3
      cases c3
    have h45 : ¬ s.data.toList = [45] := by
      intro e
      rw [e3] at e
      cases a with
      | nil => injection e with e _; exact absurd e (by decide)
      | cons x xs => injection e with _ e; simp at e
    have e4 : sp 44 r = [r] := by
      rcases cut_sp 44 r with ⟨_, e4⟩ | ⟨a2, r2, _, _, e6⟩
      · exact e4
      · exact absurd (by rw [e6]; simp) hr
    unfold pnum
    rw [if_neg h45, e2, e4]
    simp only [List.map_cons, List.map_nil]
    have hp : pall [mkB a, mkB r] = some [(impl_ParseInt.val (mkB a)).1, (impl_ParseInt.val (mkB r)).1] := by
      unfold pall
      rw [if_pos c2]
      unfold pall
      rw [if_pos c3]
      rfl
    rw [hp]
    exact ⟨rfl, rfl⟩
def ppall : List ByteArray → Option (List S51)
  | [] => some []
  | s :: r => match ptOf s with
    | some p => (ppall r).map (fun l => p :: l)
    | none => none
theorem ppall_len : ∀ (w : List ByteArray) (l : List S51), ppall w = some l → l.length = w.length
  | [], l, h => by unfold ppall at h; injection h with h; subst h; rfl
  | s :: r, l, h => by
    unfold ppall at h
    split at h
    · cases hr : ppall r with
      | none => rw [hr] at h; cases h
      | some m =>
        rw [hr] at h
        injection h with h
        subst h
        rw [List.length_cons, List.length_cons, ppall_len r m hr]
    · cases h
def paddP (acc : List S51) (w : List ByteArray) : List S51 × Bool :=
  match ppall w with
  | none => ([], false)
  | some l => if 30 < acc.length + l.length then ([], false) else (acc ++ l, true)
theorem paddP_no (acc : List S51) (s : ByteArray) (r : List ByteArray) (h : ptOf s = none) : paddP acc (s :: r) = ([], false) := by
  unfold paddP ppall
  rw [h]
theorem paddP_yes (acc : List S51) (s : ByteArray) (r : List ByteArray) (p : S51) (h : ptOf s = some p) : paddP acc (s :: r) = paddP (acc ++ [p]) r := by
  unfold paddP
  rw [ppall, h]
  cases hr : ppall r with
  | none => rfl
  | some l =>
    show (if 30 < acc.length + (p :: l).length then _ else (acc ++ p :: l, true)) = (if 30 < (acc ++ [p]).length + l.length then _ else ((acc ++ [p]) ++ l, true))
    by_cases h40 : 30 < acc.length + (l.length + 1)
    · rw [if_pos (by rw [List.length_cons]; exact h40), if_pos (by rw [List.length_append, List.length_singleton]; omega)]
    · rw [if_neg (by rw [List.length_cons]; exact h40), if_neg (by rw [List.length_append, List.length_singleton]; omega), List.append_assoc]
      rfl
theorem paddP_full (acc : List S51) (w : List ByteArray) (h : 30 < acc.length + w.length) : paddP acc w = ([], false) := by
  unfold paddP
  cases hr : ppall w with
  | none => rfl
  | some l =>
    have := ppall_len w l hr
    simp only []
    rw [if_pos (by omega)]
theorem paddP_nil (acc : List S51) : paddP acc [] = if 30 < acc.length then ([], false) else (acc, true) := by unfold paddP ppall; simp
theorem spec_pp_l0 (w : List ByteArray) (hw : w.length ≤ 1048577) (hs : ∀ x ∈ w, x.size ≤ 1048576) : ∀ d i : Nat, i + d = w.length → ∀ acc : List S51, acc.length = i → Ev (fun k => spec_ParsePoints.l0 k acc w (w.length : Int) (i : Int)) (paddP acc (w.drop i)) := by
  intro d
  induction d with
  | zero =>
    intro i hi acc ha
    refine Ev.step (fun k => by rw [spec_ParsePoints.l0]) ?_
    refine evF (by omega) ?_
    rw [List.drop_of_length_le (by omega), paddP_nil]
    by_cases h : 30 < acc.length
    · rw [if_pos h]; exact evT (by omega) (evSome _)
    · rw [if_neg h]; exact evF (by omega) (evSome _)
  | succ d ih =>
    intro i hi acc ha
    refine Ev.step (fun k => by rw [spec_ParsePoints.l0]) ?_
    refine evT (by omega) (evT (by omega) (evT (by omega) ?_))
    rw [rdS w i (by omega), w64s i (by omega), List.drop_eq_getElem_cons (show i < w.length by omega)]
    refine Ev.bind (spec_pn_ev _ (hs _ (List.getElem_mem _))) ?_
    by_cases hv : (pnum w[i]).2 = true
    · by_cases h2 : (pnum w[i]).1.length = 2
      · rw [paddP_yes _ _ _ _ (ptOf_some _ hv h2)]
        exact evT hv (evT (by omega) (evT (by omega) (evT (by omega) (evT (by omega) (ih (i + 1) (by omega) _ (by rw [List.length_append, List.length_singleton]; omega))))))
      · rw [paddP_no _ _ _ (ptOf_none _ (fun h => h2 h.2))]
        exact evT hv (evF (by omega) (evSome _))
    · rw [paddP_no _ _ _ (ptOf_none _ (fun h => hv h.1))]
      exact evF hv (evSome _)
theorem cut_le (c : UInt8) (s : List UInt8) : (Lib.cut s [c]).1.length ≤ s.length ∧ (Lib.cut s [c]).2.1.length ≤ s.length := by
  rcases cut_sp c s with ⟨e1, _⟩ | ⟨a, r, e1, _, e3⟩
  · rw [e1]; exact ⟨Nat.le_refl _, Nat.zero_le _⟩
  · rw [e1, e3]
    simp only [List.length_append, List.length_cons]
    omega
theorem impl_pp_l0 (w : List ByteArray) (hw : w.length ≤ 1048577) (hs : ∀ x ∈ w, x.size ≤ 1048576) : ∀ d i : Nat, i + d = w.length → ∀ acc : List S51, acc.length = i → i ≤ 30 → Ev (fun k => impl_ParsePoints.l0 k acc w (w.length : Int) (i : Int)) (paddP acc (w.drop i)) := by
  intro d
  induction d with
  | zero =>
    intro i hi acc ha h30
    refine Ev.step (fun k => by rw [impl_ParsePoints.l0]) ?_
    refine evF (by omega) ?_
    rw [List.drop_of_length_le (by omega), paddP_nil, if_neg (by omega)]
    exact evSome _
  | succ d ih =>
    intro i hi acc ha h30
    have hz := hs _ (List.getElem_mem (show i < w.length by omega))
    have hz2 := cut_le 44 w[i].data.toList
    have hz3 := size_data w[i]
    have hcut : strings_Cut.f w[i] (⟨#[44]⟩ : ByteArray) = some (mkB (Lib.cut w[i].data.toList [44]).1, mkB (Lib.cut w[i].data.toList [44]).2.1, (Lib.cut w[i].data.toList [44]).2.2) := by
      unfold strings_Cut.f
      rw [if_pos (by omega)]
      rfl
    refine Ev.step (fun k => by rw [impl_ParsePoints.l0]) ?_
    refine evT (by omega) (evT (by omega) (evT (by omega) ?_))
    rw [rdS w i (by omega), w64s i (by omega), List.drop_eq_getElem_cons (show i < w.length by omega)]
    refine evB hcut ?_
    refine evB (impl_parse _ (by rw [mkB_size]; omega)) ?_
    refine evB (impl_parse _ (by rw [mkB_size]; omega)) ?_
    by_cases c1 : (Lib.cut w[i].data.toList [44]).2.2 = true
    · refine evT c1 ?_
      by_cases c2 : (impl_ParseInt.val (mkB (Lib.cut w[i].data.toList [44]).1)).2 = true
      · refine evT c2 ?_
        by_cases c3 : (impl_ParseInt.val (mkB (Lib.cut w[i].data.toList [44]).2.1)).2 = true
        · refine evT c3 ?_
          by_cases hf : acc.length = 30
          · refine evT (by omega) ?_
            rw [paddP_full _ _ (by rw [List.length_cons]; omega)]
            exact evSome _
          · have e : ptOf w[i] = some ⟨(impl_ParseInt.val (mkB (Lib.cut w[i].data.toList [44]).1)).1, (impl_ParseInt.val (mkB (Lib.cut w[i].data.toList [44]).2.1)).1⟩ := by unfold ptOf; rw [if_pos ⟨c1, c2, c3⟩]
            rw [paddP_yes _ _ _ _ e]
            exact evF (by omega) (evT (by omega) (ih (i + 1) (by omega) _ (by rw [List.length_append, List.length_singleton]; omega) (by omega)))
        · rw [paddP_no _ _ _ (by unfold ptOf; rw [if_neg (fun h => c3 h.2.2)])]
          exact evF c3 (evSome _)
      · rw [paddP_no _ _ _ (by unfold ptOf; rw [if_neg (fun h => c2 h.2.1)])]
        exact evF c2 (evSome _)
    · rw [paddP_no _ _ _ (by unfold ptOf; rw [if_neg (fun h => c1 h.1)])]
      exact evF c1 (evSome _)
def ppts (b : ByteArray) : List S51 × Bool := if b.data.toList = [45] then ([], true) else paddP [] ((sp 32 b.data.toList).map mkB)
theorem spec_pp_ev (b : ByteArray) (hb : b.size ≤ 1048576) : Ev (fun k => spec_ParsePoints.f k b) (ppts b) := by
  unfold spec_ParsePoints.f ppts
  refine evB rfl ?_
  by_cases h : b.data.toList = [45]
  · rw [if_pos h]
    exact evT ((dash_list b).2 h) (evSome _)
  · rw [if_neg h]
    refine evF (fun e => h ((dash_list b).1 e)) ?_
    refine Ev.bind (spec_split_ev 32 b hb) ?_
    obtain ⟨h1, h2⟩ := sp_words 32 b hb
    have := spec_pp_l0 _ h1 h2 _ 0 (Nat.zero_add _) [] rfl
    rw [List.drop_zero] at this
    exact this
theorem impl_pp_ev (b : ByteArray) (hb : b.size ≤ 1048576) : Ev (fun k => impl_ParsePoints.f k b) (ppts b) := by
  unfold impl_ParsePoints.f ppts
  by_cases h : b.data.toList = [45]
  · rw [if_pos h]
    exact evT ((dash_list b).2 h) (evSome _)
  · rw [if_neg h]
    refine evF (fun e => h ((dash_list b).1 e)) ?_
    refine evB (impl_split 32 b hb) ?_
    obtain ⟨h1, h2⟩ := sp_words 32 b hb
    have := impl_pp_l0 _ h1 h2 _ 0 (Nat.zero_add _) [] rfl (by omega)
    rw [List.drop_zero] at this
    exact this
theorem ppts_len (b : ByteArray) : (ppts b).1.length ≤ 30 := by
  unfold ppts paddP
  split
  · simp
  · split
    · simp
    · split
      · simp
      · rename_i h
        simp only [List.nil_append]
        simp only [List.length_nil] at h
        omega

theorem FnExactParsePoints : ∀ (a0 : ByteArray), a0.size ≤ 140737488351232 → ∃ k, laws_FnExactParsePoints.f k a0 = some true := by
  intro a0 g0
  refine Ev.rounds (g := fun k => laws_FnExactParsePoints.f k a0) ?_
  unfold laws_FnExactParsePoints.f
  by_cases hb : (a0.size : Int) > 1048576
  · exact evT hb (evSome _)
  · have hs : a0.size ≤ 1048576 := by omega
    have hl := ppts_len a0
    have hS := spec_pp_ev a0 hs
    have hI := impl_pp_ev a0 hs
    obtain ⟨⟨l, ok⟩, hp⟩ : ∃ p, ppts a0 = p := ⟨_, rfl⟩
    rw [hp] at hS hI hl
    have hl' : l.length ≤ 30 := hl
    have hM := markPointS_ev l 1 (by omega)
    have hH := heldPointS_ev 1 l.length (by omega)
    have hE := eqPointS_ev l (by omega)
    refine evF hb ?_
    refine Ev.bind hS ?_
    refine Ev.bind hI ?_
    refine Ev.bind hE ?_
    refine evT rfl ?_
    refine Ev.step (fun k => by rw [laws_FnExactParsePoints.j0]) ?_
    refine evF (by simp) ?_
    refine Ev.bind hM ?_
    refine Ev.bind hH ?_
    refine evF (by omega) ?_
    refine evT rfl ?_
    refine Ev.bind hI ?_
    refine Ev.bind hE ?_
    refine evT rfl ?_
    refine Ev.step (fun k => by rw [laws_FnExactParsePoints.j1]) ?_
    refine evF (by simp) ?_
    refine Ev.bind hH ?_
    refine evF (by omega) ?_
    exact evT rfl (evSome _)

end Go.Proofs.YtpmpcaahbhdiiaaDoor.Pure
