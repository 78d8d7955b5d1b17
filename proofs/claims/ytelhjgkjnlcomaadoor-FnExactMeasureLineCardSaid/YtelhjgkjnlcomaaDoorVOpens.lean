/- What reads as data (ints, bools, strings, slices of such, structs of two such parts) is of the print's kinds. -/
import Derived.Deep.Slices
import Derived.ChangeArms
import Derived.DataReads
import Derived.Test.YtelhjgkjnlcomaaDoorVWords
namespace Go.Proofs.YtelhjgkjnlcomaaDoor.Opens
open Go.ChangeShapes Go.WideShapes Go.Deep Go.RowKit Go.Proofs.YtelhjgkjnlcomaaDoorW.PrintWords
set_option linter.unusedVariables false
set_option linter.unusedSimpArgs false

/-- Whatever reads as data of type t is of the kind d, and good. -/
def Opens {α : Type} (P : Program) (t : TypeId) (d : Kd α) (good : α → Prop) : Prop :=
  ∀ (H : Type) (enc : TypeId × Value → H) (w : World) (base : Nat) (held : Bool) (fuel : Nat) (cs : List Value) (x : DataW H × List MemPlace),
    DataW.trod enc P w base (fun _ => true) held fuel t cs = some x → ∃ a : α, d.K w a cs ∧ good a

theorem opens_int {P : Program} {t : TypeId} {k : IntKind} (ht : P.underlying t = some (.int k)) : Opens P t (Kd.int k) (fun n => (Lit.int k n).wf = true) := by
  intro H enc w base held fuel cs x h
  obtain ⟨n, rfl, _, hw⟩ := DataW.trod_int ht h
  exact ⟨n, rfl, hw⟩
/-- What an int can be. -/
def I64 (n : Int) : Prop := -9223372036854775808 ≤ n ∧ n ≤ 9223372036854775807
theorem i64_of {n : Int} (h : (Lit.int .i64 n).wf = true) : I64 n := by
  simp only [Lit.wf, IntKind.min, IntKind.max, IntKind.signed, IntKind.bits, Bool.and_eq_true, decide_eq_true_eq, if_true] at h
  unfold I64
  omega
theorem opens_i64 {P : Program} {t : TypeId} (ht : P.underlying t = some (.int .i64)) : Opens P t (Kd.int .i64) I64 := by
  intro H enc w base held fuel cs x h
  obtain ⟨n, rfl, _, hw⟩ := DataW.trod_int ht h
  exact ⟨n, rfl, i64_of hw⟩
theorem opens_bool {P : Program} {t : TypeId} (ht : P.underlying t = some .bool) : Opens P t Kd.bool (fun _ => True) := by
  intro H enc w base held fuel cs x h
  obtain ⟨n, rfl, _⟩ := DataW.trod_bool ht h
  exact ⟨n, rfl, trivial⟩
theorem opens_string {P : Program} {t : TypeId} (ht : P.underlying t = some .string) : Opens P t Kd.string (fun s => s.size ≤ 9223372036854775807) := by
  intro H enc w base held fuel cs x h
  obtain ⟨n, rfl, _, hs⟩ := DataW.trod_string ht h
  exact ⟨n, rfl, hs⟩
theorem list_of_each {α : Type} {p : Nat → α → Prop} : ∀ (n : Nat), (∀ i, i < n → ∃ y, p i y) → ∃ l : List α, l.length = n ∧ ∀ i y, l[i]? = some y → p i y
  | 0, _ => ⟨[], rfl, by simp⟩
  | n + 1, h => by
    obtain ⟨l, hl, hp⟩ := list_of_each n (fun i hi => h i (by omega))
    obtain ⟨y, hy⟩ := h n (by omega)
    refine ⟨l ++ [y], by simp [hl], fun i z hz => ?_⟩
    rcases Nat.lt_or_ge i l.length with hlt | hge
    · rw [List.getElem?_append_left hlt] at hz
      exact hp i z hz
    · rw [List.getElem?_append_right hge] at hz
      have hi : i - l.length = 0 := by
        rcases Nat.eq_zero_or_pos (i - l.length) with h0 | h0
        · exact h0
        · rw [List.getElem?_eq_none (by simp; omega)] at hz
          cases hz
      rw [hi] at hz
      have hz2 : y = z := by simpa using hz
      have hin : i = n := by omega
      subst hz2
      subst hin
      exact hy
theorem opens_slice {α : Type} {P : Program} {t e : TypeId} {d : Kd α} {good : α → Prop} (ht : P.underlying t = some (.slice e)) (hc : P.cellsOf e = d.sz) (ho : Opens P e d good) :
    Opens P t (Kd.slice e d) (fun l => l.length ≤ 9223372036854775807 ∧ ∀ x ∈ l, good x) := by
  intro H enc w base held fuel cs x h
  rcases open_slice ht h with ⟨rfl, _⟩ | ⟨a, len, cap, m, n, D, Pl, rfl, hb, hl, hm, hmm, _, hx⟩
  · exact ⟨[], ⟨none, 0, rfl, Nat.le_refl _, rfl, Nat.zero_le _, fun h0 => absurd h0 (by simp)⟩, Nat.zero_le _, fun _ h0 => absurd h0 (by simp)⟩
  · simp only [if_true] at hmm
    have hm2 : cap ≤ 9223372036854775807 := hm
    have each : ∀ i, i < len → ∃ y : α, good y ∧ ∃ c : List Value, c.length = d.sz ∧ d.K w y c ∧ ∀ j u, c[j]? = some u → w.cell? (a.add (i * d.sz + j)) = some u := by
      intro i hi
      obtain ⟨c, h1, h2⟩ := hx i (by omega)
      obtain ⟨y, hy, hg⟩ := ho H enc w base held n c _ h2
      obtain ⟨_, h3, h4⟩ := World.cells?_some h1
      refine ⟨y, hg, c, d.K_len hy, hy, fun j u hj => ?_⟩
      have hjl : j < c.length := (List.getElem?_eq_some_iff.1 hj).1
      have h5 := h4 j (by omega)
      rw [hj, Deep.add_add, hc] at h5
      exact h5
    obtain ⟨l, hll, hp⟩ := list_of_each len each
    refine ⟨l, ⟨some a, cap, by rw [hll], by omega, rfl, by omega, fun _ => ⟨a, rfl, fun j p hj => ?_⟩⟩, by omega, fun y hy => ?_⟩
    · obtain ⟨_, c, h1, h2, h3⟩ := hp j p hj
      exact ⟨c, h1, h2, h3⟩
    · obtain ⟨i, hi⟩ := List.getElem?_of_mem hy
      exact (hp i y hi).1
theorem opens_pair {β γ : Type} {P : Program} {t : TypeId} {f0 f1 : Field} {dA : Kd β} {dB : Kd γ} {gA : β → Prop} {gB : γ → Prop} (ht : P.underlying t = some (.struct #[f0, f1])) (o0 : f0.offset = 0) (o1 : f1.offset = dA.sz)
    (c0 : P.cellsOf f0.type = dA.sz) (c1 : P.cellsOf f1.type = dB.sz) (hc : P.cellsOf t = dA.sz + dB.sz) (hA : Opens P f0.type dA gA) (hB : Opens P f1.type dB gB) :
    Opens P t (Kd.pair dA dB) (fun x => gA x.1 ∧ gB x.2) := by
  intro H enc w base held fuel cs x h
  obtain ⟨xs, n, _, _, hlen, hxl, hf⟩ := DataW.trod_struct ht h
  have h0 := hf 0 f0 rfl
  have h1 := hf 1 f1 rfl
  rw [List.getElem?_eq_getElem (by rw [hxl]; simp)] at h0
  rw [List.getElem?_eq_getElem (by rw [hxl]; simp)] at h1
  rw [o0, c0] at h0
  rw [o1, c1] at h1
  obtain ⟨b, hb, gb⟩ := hA _ _ _ _ _ _ _ _ h0
  obtain ⟨c, hcc, gc⟩ := hB _ _ _ _ _ _ _ _ h1
  refine ⟨(b, c), ⟨_, _, ?_, hb, hcc⟩, gb, gc⟩
  rw [List.drop_zero, List.take_of_length_le (l := cs.drop dA.sz) (by rw [List.length_drop]; omega), List.take_append_drop]
theorem opens_iso {α β : Type} {P : Program} {t : TypeId} {d : Kd α} {f : β → α} {good : α → Prop} (g : α → β) (hfg : ∀ a, f (g a) = a) (ho : Opens P t d good) : Opens P t (Kd.iso d f) (fun b => good (f b)) := by
  intro H enc w base held fuel cs x h
  obtain ⟨a, ha, hg⟩ := ho _ _ _ _ _ _ _ _ h
  refine ⟨g a, ?_, ?_⟩
  · show d.K w (f (g a)) cs
    rw [hfg]
    exact ha
  · show good (f (g a))
    rw [hfg]
    exact hg
/-- An argument that is a slice. -/
theorem open_arg_slice {α : Type} {P : Program} {t e : TypeId} {d : Kd α} {good : List α → Prop} {H : Type} {enc : TypeId × Value → H} {w : World} {base : Nat} {held : Bool} {v : Value} {dd : DataW H} {ps : List MemPlace} {r : Reach} {b0 : Nat}
    (ht : P.underlying t = some (.slice e)) (ho : Opens P t (Kd.slice e d) good) (hval : Value.okWide P w r b0 t v) (h : DataW.Trod enc P w base (fun _ => true) held t v dd ps) :
    ∃ (A : Option Addr) (c : Nat) (l : List α), v = .slice A l.length c ∧ l.length ≤ c ∧ Kd.C d w A l.length l ∧ good l := by
  obtain ⟨a, len, cap, rfl⟩ := okWide_slice ht hval
  obtain ⟨fuel, hf⟩ := h
  obtain ⟨l, ⟨A, c, he, hl, hC⟩, hg⟩ := ho _ _ _ _ _ _ _ _ hf
  have he2 : Value.slice a len cap = Value.slice A l.length c := by
    have h2 := congrArg List.head? he
    simpa [Value.cells] using h2
  exact ⟨A, c, l, he2, hl, hC, hg⟩
/-- An argument that is a struct of two parts of one cell. -/
theorem open_arg_pair {α : Type} {P : Program} {t : TypeId} {fs : Array Field} {d : Kd α} {good : α → Prop} {H : Type} {enc : TypeId × Value → H} {w : World} {base : Nat} {held : Bool} {v : Value} {dd : DataW H} {ps : List MemPlace} {r : Reach} {b0 : Nat}
    (ht : P.underlying t = some (.struct fs)) (ho : Opens P t d good) (hval : Value.okWide P w r b0 t v) (h : DataW.Trod enc P w base (fun _ => true) held t v dd ps) :
    ∃ (cs : List Value) (x : α), v = .agg cs.toArray ∧ d.K w x cs ∧ good x := by
  obtain ⟨cs, rfl, _⟩ := okWide_struct ht hval
  obtain ⟨fuel, hf⟩ := h
  obtain ⟨x, hx, hg⟩ := ho _ _ _ _ _ _ _ _ hf
  exact ⟨cs.toList, x, by simp, by simpa [Value.cells] using hx, hg⟩
end Go.Proofs.YtelhjgkjnlcomaaDoor.Opens
