import Derived.Test.YtpmpcaahbhdiiaaVMore
import Derived.Test.YtpmpcaahbhdiiaaVLast
import Derived.Test.YtpmpcaahbhdiiaaProg
import Derived.Test.YtpmpcaahbhdiiaaRows
import Derived.WalkSpells
import Derived.Maps.Views
import Derived.Maps.OwnSet
import Derived.Maps.OwnOps
import Derived.WideKeyEntry
namespace Go.Proofs.Ytpmpcaahbhdiiaa.Ledger
open Go.RowKit Go.Proofs.YtpmpcaahbhdiiaaW.PrintWords Go.Proofs.YtpmpcaahbhdiiaaW.PrintLast Go.Proofs.YtpmpcaahbhdiiaaW.PrintMore
open Go.WideShapes Go.MapKept Go.ChangeMaps
open Go.Maps (Keyed)
set_option linter.unusedVariables false
set_option linter.unusedSimpArgs false

/-! ### a new key: the entry and the store behind it -/
section
variable {H : Type} {P : Program} {w : World} {t k e : TypeId} {R : Value → Option (DataW H × List MemPlace)} {b n : Nat} {D : DataW H}
theorem entry_new (h : w.ownsMap P k R b n D) (K : Keyed P k) (ht : P.underlying t = some (.map k e)) {z : Value} (hz : ∀ u : World, (zeroValue e).run P u = .ok z u) (hn : n < maxLen)
    {key : Value} {kl : Lit} (hkey : keyOf P k key = some kl) (hno : Maps.has D kl = false) :
    ∃ (v0 : Value) (st : Nat) (w1 : World), (Instr.mapEntry t (.map (some b)) key).run P w = .ok (.tuple #[v0, goInt st]) w1 ∧ w.grownBy w1 (some b) ∧
      ∀ (w2 : World) (val : Value) (d : DataW H) (ps : List MemPlace), w2.heap[b]? = w1.heap[b]? → R val = some (d, ps) →
        ∃ w3, (Instr.entryStore t (.map (some b)) (goInt st) val).run P w2 = .ok () w3 ∧ w3.ownsMap P k R b (n + 1) (D.put kl d) ∧ w2.grownBy w3 (some b) := by
  have H := h
  obtain ⟨es, clock, hb, F, hs, hD⟩ := h
  rcases K.find w hkey es.toList F.keys with ⟨h1, h2⟩ | ⟨j, e0, h1, h2, h3⟩
  · refine ⟨z, clock, setBlock w b (.map (es.push ⟨key, z, clock⟩) (clock + 1)), ?_, ⟨rfl, rfl, rfl, by simp [setBlock], fun i _ hi => heap_setBlock_other hb _ (fun e => hi (by rw [e]))⟩, ?_⟩
    · simp [Instr.mapEntry, run_underlying ht, MapKept.run_getObj_map hb, K.check w false hkey, h1, hz, MapKept.run_setObj_map _ hb, Result.andThen, setBlock]
    · intro w2 val d ps hw2 hR
      rw [heap_setBlock_same hb] at hw2
      obtain ⟨w', hrun, hown, hg⟩ := H.update K ht hn hkey hR
      have hup : (Instr.mapUpdate t (.map (some b)) key val).run P w = .ok () (setBlock w b (.map (es.push ⟨key, val, clock⟩) (clock + 1))) := by
        simp [Instr.mapUpdate, run_underlying ht, MapKept.run_getObj_map hb, K.check w false hkey, h1, MapKept.run_setObj_map _ hb, Result.andThen, setBlock]
      rw [hup] at hrun
      injection hrun with _ hw
      subst hw
      obtain ⟨s1, s2, _⟩ := F.stamped
      have hidx : (es.push ⟨key, z, clock⟩).findIdx? (fun e => ((e.born : Nat) : Int) == ((clock : Nat) : Int)) = some es.size := by
        have h9 := WideElems.findIdx_born (l := es.toList ++ [⟨key, z, clock⟩]) (j := es.size) (e0 := ⟨key, z, clock⟩) (by
          simp only [List.map_append, List.map_cons, List.map_nil]
          exact List.nodup_append.2 ⟨s2, by simp, fun a ha c hc e1 => by
            simp only [List.mem_singleton] at hc
            obtain ⟨x, hx, rfl⟩ := List.mem_map.1 ha
            exact absurd (s1 x hx) (by omega)⟩) (by simp)
        rw [WideElems.findIdx_arr, Array.toList_push]
        exact h9
      have hmod : (es.push ⟨key, z, clock⟩).modify es.size (fun e => { e with val := val }) = es.push ⟨key, val, clock⟩ := by
        apply Array.ext'
        rw [Array.toList_modify, Array.toList_push, Array.toList_push, ← Array.length_toList, WideElems.modify_last]
      refine ⟨setBlock w2 b (.map (es.push ⟨key, val, clock⟩) (clock + 1)), ?_, ?_, ⟨rfl, rfl, rfl, by simp [setBlock], fun i _ hi => heap_setBlock_other hw2 _ (fun e => hi (by rw [e]))⟩⟩
      · simp [Instr.entryStore, MapKept.run_getObj_map hw2, asInt, asIntOf, goInt, hidx, hmod, MapKept.run_setObj_map _ hw2, Result.andThen, setBlock]
      · obtain ⟨es', clock', hb', F', hs', hD'⟩ := hown
        refine ⟨es', clock', ?_, F', hs', hD'⟩
        rw [heap_setBlock_same hb] at hb'
        rw [heap_setBlock_same hw2, hb']
  · exfalso
    rcases Maps.fit_look false K ht (hz w) hb F hkey with ⟨_, h4, _⟩ | ⟨e1, y, _, _, _, _, hat, _⟩
    · exact h4 e0 (List.mem_of_getElem? h2) h3
    · rw [hD] at hno
      rw [Maps.has_true_of_atKey hat] at hno
      cases hno
end

/-! ### the two maps -/
theorem zero3 (w : World) : (zeroValue 3).run Try.prog w = .ok (.int .i64 0) w := by kernel_rfl
theorem zero4 (w : World) : (zeroValue 4).run Try.prog w = .ok (.bool false) w := by kernel_rfl
theorem K3 : Keyed Try.prog 3 := Maps.int_keyed Try.underlying3
def upd {α : Type} (f : Int → α) (k : Int) (v : α) : Int → α := fun j => if j = k then v else f j
theorem upd_same {α : Type} (f : Int → α) (k : Int) (v : α) : upd f k v k = v := by simp [upd]
theorem upd_other {α : Type} (f : Int → α) {j k : Int} (v : α) (h : j ≠ k) : upd f k v j = f j := by simp [upd, h]
def okI (k : Int) : Prop := (Lit.int .i64 k).wf = true
theorem okI_small {k : Int} (h0 : -1000000 ≤ k) (h1 : k ≤ 1000000) : okI k := by
  simp [okI, Lit.wf, IntKind.min, IntKind.max, IntKind.bits, IntKind.signed]
  omega
def AMap (w : World) (b n : Nat) (A : Int → Option Int) : Prop :=
  ∃ D : DataW Unit, w.ownsMap Try.prog 3 (plainElem Try.prog 3) b n D ∧ ∀ k, Maps.has D (.int .i64 k) = (A k).isSome ∧ D.atKey (.int .i64 k) (.lit (.int .i64 0)) = .lit (.int .i64 ((A k).getD 0))
def UMap (w : World) (b n : Nat) (U : Int → Bool) : Prop :=
  ∃ D : DataW Unit, w.ownsMap Try.prog 3 (plainElem Try.prog 4) b n D ∧ ∀ k, Maps.has D (.int .i64 k) = U k ∧ D.atKey (.int .i64 k) (.lit (.bool false)) = .lit (.bool (U k))
theorem AMap.kept {w w' : World} {b n A} (h : AMap w b n A) (hb : w'.heap[b]? = w.heap[b]?) : AMap w' b n A := by
  obtain ⟨D, ⟨es, c, h1, h2, h3, h4⟩, h5⟩ := h
  exact ⟨D, ⟨es, c, hb.trans h1, h2, h3, h4⟩, h5⟩
theorem UMap.kept {w w' : World} {b n U} (h : UMap w b n U) (hb : w'.heap[b]? = w.heap[b]?) : UMap w' b n U := by
  obtain ⟨D, ⟨es, c, h1, h2, h3, h4⟩, h5⟩ := h
  exact ⟨D, ⟨es, c, hb.trans h1, h2, h3, h4⟩, h5⟩
theorem AMap.lt {w : World} {b n A} (h : AMap w b n A) : b < w.heap.size := by
  obtain ⟨D, h1, _⟩ := h
  exact h1.lt
theorem UMap.lt {w : World} {b n U} (h : UMap w b n U) : b < w.heap.size := by
  obtain ⟨D, h1, _⟩ := h
  exact h1.lt
theorem AMap.mono {w : World} {b n n' A} (h : AMap w b n A) (hn : n ≤ n') : AMap w b n' A := by
  obtain ⟨D, h1, h2⟩ := h
  exact ⟨D, h1.mono hn, h2⟩
theorem UMap.mono {w : World} {b n n' A} (h : UMap w b n A) (hn : n ≤ n') : UMap w b n' A := by
  obtain ⟨D, h1, h2⟩ := h
  exact ⟨D, h1.mono hn, h2⟩
theorem AMap.made (w : World) : AMap (w.alloc (.map #[] 0)) w.heap.size 0 (fun _ => none) :=
  ⟨.map [], World.ownsMap_made w _ _ _, fun k => ⟨rfl, rfl⟩⟩
theorem UMap.made (w : World) : UMap (w.alloc (.map #[] 0)) w.heap.size 0 (fun _ => false) :=
  ⟨.map [], World.ownsMap_made w _ _ _, fun k => ⟨rfl, rfl⟩⟩
theorem kf {k : Int} (h : okI k) : keyOf Try.prog 3 (.int .i64 k) = some (.int .i64 k) := Maps.keyOf_int_mk Try.underlying3 h
theorem AMap.look_ok {w : World} {b n A} (h : AMap w b n A) {k : Int} (hk : okI k) :
    (Instr.lookup 41 (.map (some b)) (.int .i64 k) true).run Try.prog w = .ok (.tuple #[.int .i64 ((A k).getD 0), .bool (A k).isSome]) w := by
  obtain ⟨D, h1, h2⟩ := h
  obtain ⟨v, ps, hrun, hv⟩ := h1.look_ok K3 Try.underlying41 (zero3 w) (plainElem_int Try.underlying3 (by decide)) (kf hk)
  rw [(h2 k).1, (h2 k).2] at *
  obtain ⟨c, rfl, hc, _⟩ := plainElem_int_inv Try.underlying3 hv
  simp only [Prod.mk.injEq, DataW.lit.injEq, Lit.int.injEq, true_and] at hc
  rw [hrun, hc.1]
theorem AMap.look {w : World} {b n A} (h : AMap w b n A) {k : Int} (hk : okI k) :
    (Instr.lookup 41 (.map (some b)) (.int .i64 k) false).run Try.prog w = .ok (.int .i64 ((A k).getD 0)) w := by
  obtain ⟨D, h1, h2⟩ := h
  obtain ⟨c, hrun, hc, _⟩ := h1.lookup_int K3 Try.underlying41 Try.underlying3 (zero3 w) (kf hk)
  rw [(h2 k).2] at hc
  simp only [DataW.lit.injEq, Lit.int.injEq, true_and] at hc
  rw [hrun, hc]
theorem UMap.look {w : World} {b n U} (h : UMap w b n U) {k : Int} (hk : okI k) :
    (Instr.lookup 42 (.map (some b)) (.int .i64 k) false).run Try.prog w = .ok (.bool (U k)) w := by
  obtain ⟨D, h1, h2⟩ := h
  obtain ⟨v, ps, hrun, hv⟩ := h1.lookup K3 Try.underlying42 (zero4 w) (plainElem_bool Try.underlying4 false) (kf hk)
  rw [(h2 k).2] at hv
  rw [hrun]
  cases v <;> simp [plainElem, Try.underlying4] at hv
  rename_i x
  rw [hv.1]
theorem AMap.put {w : World} {b n A} (h : AMap w b n A) (hn : n < maxLen) {k v : Int} (hk : okI k) (hv : okI v) :
    ∃ w', (Instr.mapUpdate 41 (.map (some b)) (.int .i64 k) (.int .i64 v)).run Try.prog w = .ok () w' ∧ AMap w' b (n + 1) (upd A k (some v)) ∧ w.grownBy w' (some b) := by
  obtain ⟨D, h1, h2⟩ := h
  obtain ⟨w', hrun, hown, hg⟩ := h1.update K3 Try.underlying41 hn (kf hk) (plainElem_int Try.underlying3 hv)
  refine ⟨w', hrun, ⟨_, hown, fun j => ?_⟩, hg⟩
  by_cases e : j = k
  · subst e
    rw [Maps.has_put_same (h1.isMap) (K3.key (kf hk)), Maps.atKey_put_same (h1.isMap) (K3.key (kf hk)), upd_same]
    exact ⟨rfl, rfl⟩
  · have hne : (Lit.int .i64 j) ≠ .int .i64 k := fun h => e (by injection h)
    rw [Maps.has_put_other hne, Maps.atKey_put_other hne, upd_other _ _ e]
    exact h2 j
theorem AMap.del {w : World} {b n A} (h : AMap w b n A) {k : Int} (hk : okI k) (ty : TypeId) :
    ∃ w', (Builtin.delete_ #[41, 3] ty #[.map (some b), .int .i64 k]).run Try.prog w = .ok (.tuple #[]) w' ∧ AMap w' b n (upd A k none) ∧ w.grownBy w' (some b) := by
  obtain ⟨D, h1, h2⟩ := h
  obtain ⟨w', hrun, hown, hg⟩ := h1.drop K3 Try.underlying41 (kf hk) ty
  refine ⟨w', hrun, ⟨_, hown, fun j => ?_⟩, hg.grown⟩
  by_cases e : j = k
  · subst e
    rw [Maps.has_del_same, Maps.atKey_del_same, upd_same]
    exact ⟨rfl, rfl⟩
  · have hne : (Lit.int .i64 j) ≠ .int .i64 k := fun h => e (by injection h)
    rw [Maps.has_del_other hne, Maps.atKey_del_other hne, upd_other _ _ e]
    exact h2 j
theorem AMap.entry {w : World} {b n A} (h : AMap w b n A) (hn : n < maxLen) {k v : Int} (hk : okI k) (hv : okI v) (hno : A k = none) :
    ∃ (v0 : Value) (st : Nat) (w1 : World), (Instr.mapEntry 41 (.map (some b)) (.int .i64 k)).run Try.prog w = .ok (.tuple #[v0, goInt st]) w1 ∧ w.grownBy w1 (some b) ∧
      ∀ (w2 : World), w2.heap[b]? = w1.heap[b]? → ∃ w3, (Instr.entryStore 41 (.map (some b)) (goInt st) (.int .i64 v)).run Try.prog w2 = .ok () w3 ∧ AMap w3 b (n + 1) (upd A k (some v)) ∧ w2.grownBy w3 (some b) := by
  obtain ⟨D, h1, h2⟩ := h
  obtain ⟨v0, st, w1, hr, hg, hst⟩ := entry_new h1 K3 Try.underlying41 zero3 hn (kf hk) (by rw [(h2 k).1, hno]; rfl)
  refine ⟨v0, st, w1, hr, hg, fun w2 hw2 => ?_⟩
  obtain ⟨w3, hr3, hown, hg3⟩ := hst w2 _ _ _ hw2 (plainElem_int Try.underlying3 hv)
  refine ⟨w3, hr3, ⟨_, hown, fun j => ?_⟩, hg3⟩
  by_cases e : j = k
  · subst e
    rw [Maps.has_put_same (h1.isMap) (K3.key (kf hk)), Maps.atKey_put_same (h1.isMap) (K3.key (kf hk)), upd_same]
    exact ⟨rfl, rfl⟩
  · have hne : (Lit.int .i64 j) ≠ .int .i64 k := fun h => e (by injection h)
    rw [Maps.has_put_other hne, Maps.atKey_put_other hne, upd_other _ _ e]
    exact h2 j
theorem UMap.entry {w : World} {b n U} (h : UMap w b n U) (hn : n < maxLen) {k : Int} (hk : okI k) (hno : U k = false) :
    ∃ (v0 : Value) (st : Nat) (w1 : World), (Instr.mapEntry 42 (.map (some b)) (.int .i64 k)).run Try.prog w = .ok (.tuple #[v0, goInt st]) w1 ∧ w.grownBy w1 (some b) ∧
      ∀ (w2 : World), w2.heap[b]? = w1.heap[b]? → ∃ w3, (Instr.entryStore 42 (.map (some b)) (goInt st) (.bool true)).run Try.prog w2 = .ok () w3 ∧ UMap w3 b (n + 1) (upd U k true) ∧ w2.grownBy w3 (some b) := by
  obtain ⟨D, h1, h2⟩ := h
  obtain ⟨v0, st, w1, hr, hg, hst⟩ := entry_new h1 K3 Try.underlying42 zero4 hn (kf hk) (by rw [(h2 k).1, hno])
  refine ⟨v0, st, w1, hr, hg, fun w2 hw2 => ?_⟩
  obtain ⟨w3, hr3, hown, hg3⟩ := hst w2 _ _ _ hw2 (plainElem_bool Try.underlying4 true)
  refine ⟨w3, hr3, ⟨_, hown, fun j => ?_⟩, hg3⟩
  by_cases e : j = k
  · subst e
    rw [Maps.has_put_same (h1.isMap) (K3.key (kf hk)), Maps.atKey_put_same (h1.isMap) (K3.key (kf hk)), upd_same]
    exact ⟨rfl, rfl⟩
  · have hne : (Lit.int .i64 j) ≠ .int .i64 k := fun h => e (by injection h)
    rw [Maps.has_put_other hne, Maps.atKey_put_other hne, upd_other _ _ e]
    exact h2 j
/-! ### the operations -/
section
variable {P : Program} {ops : Array Oper} {rest : List Oper} {o : Oper} {a : Act} {Q : Exit → Act → World → Prop} {W W1 : World}
theorem op_look (hgd : o.guard = none) {N : Tmp} (_hd : o.dst = some N) {t : TypeId} {m x : Operand} {c : Bool} {b : Nat} {key v : Value} (hop : o.op = .lookup t m x c) (hm : a.eval m = .map (some b)) (hx : a.eval x = key)
    (hrun : (Instr.lookup t (.map (some b)) key c).run P W = .ok v W) (h : wpList P ops Q rest (a.put o.dst v) W) : wpList P ops Q (o :: rest) a W :=
  Kd.event_run hgd (by simp [execOp, hop, hm, hx, hrun, Result.andThen]) h
theorem op_upd (hgd : o.guard = none) (hd : o.dst = none) {t : TypeId} {m x y : Operand} {b : Nat} {key v : Value} (hop : o.op = .mapUpdate t m x y) (hm : a.eval m = .map (some b)) (hx : a.eval x = key) (hy : a.eval y = v)
    (hrun : (Instr.mapUpdate t (.map (some b)) key v).run P W = .ok () W1) (h : wpList P ops Q rest a W1) : wpList P ops Q (o :: rest) a W := by
  refine wpList_plain hgd fun K hK => ?_
  unfold Oper.wp
  simp [execOp, hop, hm, hx, hy, hrun, Result.andThen]
  exact hK _ _ (by rw [show a.put o.dst undef = a by rw [hd]; rfl]; exact h)
theorem op_del (hgd : o.guard = none) (hd : o.dst = none) {t k : TypeId} {m x : Operand} {b : Nat} {key : Value} (hop : o.op = Op.call { callee := Callee.builtin Builtin.delete, args := #[m, x], argTypes := #[t, k] }) (hm : a.eval m = .map (some b)) (hx : a.eval x = key)
    (hrun : (Builtin.delete_ #[t, k] o.type #[.map (some b), key]).run P W = .ok (.tuple #[]) W1) (h : wpList P ops Q rest a W1) : wpList P ops Q (o :: rest) a W := by
  refine wpList_plain hgd fun K hK => ?_
  unfold Oper.wp
  simp [execOp, hop, resolve, invoke, builtin, hm, hx, hrun, Result.andThen]
  exact hK _ _ (by rw [show a.put o.dst (.tuple #[]) = a by rw [hd]; rfl]; exact h)
end

theorem drawnN_heap (w : World) (m : Nat) : (w.drewN m).heap = w.heap := by
  induction m <;> simp_all [World.drewN, World.drew]

set_option maxHeartbeats 8000000 in
set_option maxRecDepth 100000 in
theorem next_calls (U : Int → Bool) (n : Int) (p bu c : Nat) (w : World) (t0 t2 t3 t4 : Value) (hp : w.heap[p]? = some (.cells #[t0, .map (some bu), t2, t3, t4] 44 (0, 0))) (hU : UMap w bu c U)
    (h0 : 1 ≤ n) (h1 : n ≤ 1000) (hfree : U n = false) (hlt : ∀ m, 1 ≤ m → m < n → U m = true) :
    Calls Try.prog 17 #[.pointer (some ⟨p, 0, none⟩)] w fun e w' => e = .returned (.int .i64 n) ∧ Drawn0 w w' := by
  have HU := Aside0.mk hU
  clear hU
  have HL := Aside0.mk hlt
  clear hlt
  have hcz : w.cell? ⟨p, 1, none⟩ = some (.map (some bu)) := (blk_cell hp 1).trans rfl
  clear hp
  go_enter Try.func17, Try.ntmps17
  go_wp2
  go_loopg [3] (n.toNat) (fun kq v3 w' => ∃ (m : Int), v3 = .int .i64 m ∧ Aside0 (1 ≤ m ∧ m ≤ n ∧ m + kq = n + 1) ∧ Drawn0 w w')
  case atStart => exact ⟨1, (by first | rfl | (simp; done) | (simp [*]; done)), ⟨by omega⟩, by repeat (first | exact Drawn0.refl _ | apply Drawn0.step)⟩
  case round =>
    obtain ⟨m, rfl, HA, ⟨m1, rfl⟩⟩ := hrel
    have hA := HA.out
    by_cases e : m = n
    · have hv : U m = false := by rw [e]; exact hfree
      have E := Aside0.mk e
      clear e
      go_wp2_with (first | ((with_reducible refine gate_dst (N := 9) rfl ?_); refine op_look rfl (N := 9) rfl rfl rfl rfl ((HU.out.kept (congrArg (fun h => h[bu]?) (drawnN_heap _ _))).look (okI_small (k := m) (by omega) (by omega))) ?_; rw [hv]))
      go_ret
      exact ⟨by rw [E.out]; rfl, by repeat (first | exact Drawn0.refl _ | apply Drawn0.step)⟩
    · have hv : U m = true := HL.out m (by omega) (by omega)
      cases gk with
      | zero => exact absurd hA (by omega)
      | succ k1 =>
        have E := Aside0.mk e
        clear e
        go_wp2_with (first | ((with_reducible refine gate_dst (N := 9) rfl ?_); refine op_look rfl (N := 9) rfl rfl rfl rfl ((HU.out.kept (congrArg (fun h => h[bu]?) (drawnN_heap _ _))).look (okI_small (k := m) (by omega) (by omega))) ?_; rw [hv]))
        go_roundg k1
        case measure => omega
        case rel => exact ⟨m + 1, (by first | rfl | (simp; done) | (simp [*]; done)), ⟨by have := E.out; omega⟩, by repeat (first | exact Drawn0.refl _ | apply Drawn0.step)⟩

/-! ### the book -/
structure Bk where
  A : Int → Option Int
  U : Int → Bool
  b1 : Int
  b2 : Int
  b3 : Int
def nxtf (U : Int → Bool) : Nat → Int → Option Int
  | 0, _ => none
  | f + 1, n => if U n then nxtf U f (n + 1) else some n
theorem nxtf_ok (U : Int → Bool) : ∀ (f : Nat) (i n : Int), nxtf U f i = some n → i ≤ n ∧ n < i + f ∧ U n = false ∧ ∀ m, i ≤ m → m < n → U m = true
  | 0, i, n, h => by simp [nxtf] at h
  | f + 1, i, n, h => by
    simp only [nxtf] at h
    by_cases c : U i = true
    · rw [if_pos c] at h
      obtain ⟨h1, h2, h3, h4⟩ := nxtf_ok U f (i + 1) n h
      refine ⟨by omega, by omega, h3, fun m hm hn => ?_⟩
      by_cases e : m = i
      · rw [e]; exact c
      · exact h4 m (by omega) hn
    · rw [if_neg c] at h
      obtain rfl := Option.some.inj h
      exact ⟨by omega, by omega, by simpa using c, fun m hm hn => absurd hm (by omega)⟩
def addf (s : Bk) (e : List Int) : Option (Option Bk) :=
  if e.length = 3 then
    if 1 ≤ rd e 1 ∧ rd e 1 ≤ 99 then
      if rd e 0 ≠ 5 ∧ ¬ (1 ≤ rd e 2 ∧ rd e 2 ≤ 1000) then some none
      else if rd e 2 < 1 then some none
      else if (s.A (rd e 1)).isSome = (rd e 0 == 1) then some none
      else if rd e 0 = 1 then
        (if s.U (rd e 1) = true then some none else some (some { s with A := upd s.A (rd e 1) (some (rd e 2)), U := upd s.U (rd e 1) true, b1 := wrap64 (s.b1 + rd e 2) }))
      else if rd e 0 = 2 then
        (if rd e 2 ≥ (s.A (rd e 1)).getD 0 then some none else some (some { s with A := upd s.A (rd e 1) (some (wrap64 ((s.A (rd e 1)).getD 0 - rd e 2))), b2 := wrap64 (s.b2 + rd e 2) }))
      else if rd e 0 = 3 then
        (if rd e 2 ≥ (s.A (rd e 1)).getD 0 then some none else (nxtf s.U 200 1).bind fun n => if s.A n = none then some (some { s with A := upd (upd s.A (rd e 1) (some (wrap64 ((s.A (rd e 1)).getD 0 - rd e 2)))) n (some (rd e 2)), U := upd s.U n true }) else none)
      else if rd e 0 = 4 then
        (if (s.A (rd e 2)).isSome = false then some none else if rd e 2 = rd e 1 then some none else some (some { s with A := upd (upd s.A (rd e 2) (some (wrap64 ((s.A (rd e 2)).getD 0 + (s.A (rd e 1)).getD 0)))) (rd e 1) none }))
      else if rd e 0 = 5 then
        (if rd e 2 ≠ (s.A (rd e 1)).getD 0 then some none else some (some { s with A := upd s.A (rd e 1) none, b3 := wrap64 (s.b3 + rd e 2) }))
      else some none
    else some none
  else some none
structure Bd (w0 w : World) (p ba bu n : Nat) (A : Int → Option Int) (U : Int → Bool) (b1 b2 b3 : Int) : Prop where
  bk : w.heap[p]? = some (.cells #[.map (some ba), .map (some bu), .int .i64 b1, .int .i64 b2, .int .i64 b3] 44 (0, 0))
  a : AMap w ba n A
  u : UMap w bu n U
  h1 : p ≠ ba
  h2 : p ≠ bu
  h3 : ba ≠ bu
  below : Below w0.heap.size w0 w
  pp : w0.heap.size ≤ p
  pa : w0.heap.size ≤ ba
  pu : w0.heap.size ≤ bu
section
variable {w0 w W : World} {p ba bu n : Nat} {A : Int → Option Int} {U : Int → Bool} {b1 b2 b3 : Int}
theorem Bd.z0 (h : Bd w0 w p ba bu n A U b1 b2 b3) : w.cell? ⟨p, 0, none⟩ = some (.map (some ba)) := (blk_cell h.bk 0).trans rfl
theorem Bd.z1 (h : Bd w0 w p ba bu n A U b1 b2 b3) : w.cell? ⟨p, 1, none⟩ = some (.map (some bu)) := (blk_cell h.bk 1).trans rfl
theorem Bd.z2 (h : Bd w0 w p ba bu n A U b1 b2 b3) : w.cell? ⟨p, 2, none⟩ = some (.int .i64 b1) := (blk_cell h.bk 2).trans rfl
theorem Bd.z3 (h : Bd w0 w p ba bu n A U b1 b2 b3) : w.cell? ⟨p, 3, none⟩ = some (.int .i64 b2) := (blk_cell h.bk 3).trans rfl
theorem Bd.z4 (h : Bd w0 w p ba bu n A U b1 b2 b3) : w.cell? ⟨p, 4, none⟩ = some (.int .i64 b3) := (blk_cell h.bk 4).trans rfl
theorem Bd.fz (h : Bd w0 w p ba bu n A U b1 b2 b3) (i : Nat) : w.frozen? ⟨p, i, none⟩ = false := blk_frozen h.bk i
theorem Bd.same (h : Bd w0 w p ba bu n A U b1 b2 b3) (hh : W.heap = w.heap) (hb : Below w0.heap.size w0 W) : Bd w0 W p ba bu n A U b1 b2 b3 :=
  ⟨(congrArg (fun h => h[p]?) hh).trans h.bk, h.a.kept (congrArg (fun h => h[ba]?) hh), h.u.kept (congrArg (fun h => h[bu]?) hh), h.h1, h.h2, h.h3, hb, h.pp, h.pa, h.pu⟩
theorem Bd.mono (h : Bd w0 w p ba bu n A U b1 b2 b3) {n' : Nat} (hn : n ≤ n') : Bd w0 w p ba bu n' A U b1 b2 b3 :=
  ⟨h.bk, h.a.mono hn, h.u.mono hn, h.h1, h.h2, h.h3, h.below, h.pp, h.pa, h.pu⟩
theorem Bd.put (h : Bd w0 w p ba bu n A U b1 b2 b3) (hn : n < maxLen) {k v : Int} (hk : okI k) (hv : okI v) :
    ∃ w', (Instr.mapUpdate 41 (.map (some ba)) (.int .i64 k) (.int .i64 v)).run Try.prog w = .ok () w' ∧ Bd w0 w' p ba bu (n + 1) (upd A k (some v)) U b1 b2 b3 := by
  obtain ⟨w', hr, hA, hg⟩ := h.a.put hn hk hv
  refine ⟨w', hr, (hg.block p (blk_lt h.bk) (by simp; exact h.h1)).trans h.bk, hA, (h.u.kept (hg.block bu h.u.lt (by simp; exact fun e => h.h3 e.symm))).mono (by omega), h.h1, h.h2, h.h3, h.below.grown hg h.below.size (fun k hk => by injection hk with hk; have := h.pa; omega), h.pp, h.pa, h.pu⟩
theorem Bd.del (h : Bd w0 w p ba bu n A U b1 b2 b3) {k : Int} (hk : okI k) (ty : TypeId) :
    ∃ w', (Builtin.delete_ #[41, 3] ty #[.map (some ba), .int .i64 k]).run Try.prog w = .ok (.tuple #[]) w' ∧ Bd w0 w' p ba bu n (upd A k none) U b1 b2 b3 := by
  obtain ⟨w', hr, hA, hg⟩ := h.a.del hk ty
  refine ⟨w', hr, (hg.block p (blk_lt h.bk) (by simp; exact h.h1)).trans h.bk, hA, h.u.kept (hg.block bu h.u.lt (by simp; exact fun e => h.h3 e.symm)), h.h1, h.h2, h.h3, h.below.grown hg h.below.size (fun k hk => by injection hk with hk; have := h.pa; omega), h.pp, h.pa, h.pu⟩
theorem Bd.set (h : Bd w0 w p ba bu n A U b1 b2 b3) (i : Nat) (v : Value) {c1 c2 c3 : Int} (e : (#[.map (some ba), .map (some bu), .int .i64 b1, .int .i64 b2, .int .i64 b3] : Array Value).setIfInBounds i v = #[.map (some ba), .map (some bu), .int .i64 c1, .int .i64 c2, .int .i64 c3]) :
    Bd w0 (w.setCell ⟨p, i, none⟩ v) p ba bu n A U c1 c2 c3 :=
  ⟨blk_put h.bk i v e, h.a.kept (Below.heap_setCell w ⟨p, i, none⟩ v ba (fun e => h.h1 e.symm)), h.u.kept (Below.heap_setCell w ⟨p, i, none⟩ v bu (fun e => h.h2 e.symm)), h.h1, h.h2, h.h3, h.below.setCell h.pp v, h.pp, h.pa, h.pu⟩
end
theorem two_puts {W w0 : World} {ba bu n : Nat} {A U} (hA : AMap W ba n A) (hU : UMap W bu n U) (hne : ba ≠ bu) (hn : n + 2 < maxLen) {k v : Int} (hk : okI k) (hv : okI v) (hno : A k = none) (hno' : U k = false)
    (HB : Below w0.heap.size w0 W) (hba : w0.heap.size ≤ ba) (hbu : w0.heap.size ≤ bu) :
    ∃ (v0 v1 : Value) (st st' : Int) (w1 w2 w3 w4 : World), (Instr.mapEntry 41 (.map (some ba)) (.int .i64 k)).run Try.prog W = .ok (.tuple #[v0, .int .i64 st]) w1 ∧
      (Instr.entryStore 41 (.map (some ba)) (.int .i64 st) (.int .i64 v)).run Try.prog w1 = .ok () w2 ∧
      (Instr.mapEntry 42 (.map (some bu)) (.int .i64 k)).run Try.prog w2 = .ok (.tuple #[v1, .int .i64 st']) w3 ∧
      (Instr.entryStore 42 (.map (some bu)) (.int .i64 st') (.bool true)).run Try.prog w3 = .ok () w4 ∧
      AMap w4 ba (n + 1) (upd A k (some v)) ∧ UMap w4 bu (n + 1) (upd U k true) ∧ Below w0.heap.size w0 w4 ∧ (∀ j, j < W.heap.size → j ≠ ba → j ≠ bu → w4.heap[j]? = W.heap[j]?) := by
  obtain ⟨v0, st, w1, r1, g1, h1⟩ := hA.entry (by omega) hk hv hno
  obtain ⟨w2, r2, A2, g2⟩ := h1 w1 rfl
  have k1 : w2.heap[bu]? = W.heap[bu]? := (g2.block bu (by have := g1.size; have := hU.lt; omega) (by simp; omega)).trans (g1.block bu hU.lt (by simp; omega))
  have U2 := hU.kept k1
  obtain ⟨v1, st', w3, r3, g3, h3⟩ := U2.entry (by omega) hk hno'
  obtain ⟨w4, r4, U4, g4⟩ := h3 w3 rfl
  have k2 : w4.heap[ba]? = w2.heap[ba]? := (g4.block ba (by have := g3.size; have := A2.lt; omega) (by simp; omega)).trans (g3.block ba A2.lt (by simp; omega))
  have s1 := g1.size
  have s2 := g2.size
  have s3 := g3.size
  have B1 := HB.grown g1 HB.size (fun k hk => by injection hk with hk; omega)
  have B2 := B1.grown g2 B1.size (fun k hk => by injection hk with hk; omega)
  have B3 := B2.grown g3 B2.size (fun k hk => by injection hk with hk; omega)
  have B4 := B3.grown g4 B3.size (fun k hk => by injection hk with hk; omega)
  refine ⟨v0, v1, st, st', w1, w2, w3, w4, r1, r2, r3, r4, A2.kept k2, U4, B4, fun j hj h5 h6 => ?_⟩
  rw [g4.block j (by omega) (by simp; omega), g3.block j (by omega) (by simp; omega), g2.block j (by omega) (by simp; omega), g1.block j hj (by simp; omega)]
theorem Bd.two {w0 W : World} {p ba bu n : Nat} {A U} {b1 b2 b3 : Int} (h : Bd w0 W p ba bu n A U b1 b2 b3) (hn : n + 2 < maxLen) {k v : Int} (hk : okI k) (hv : okI v) (hno : A k = none) (hno' : U k = false) :
    ∃ (v0 v1 : Value) (st st' : Int) (w1 w2 w3 w4 : World), (Instr.mapEntry 41 (.map (some ba)) (.int .i64 k)).run Try.prog W = .ok (.tuple #[v0, .int .i64 st]) w1 ∧
      (Instr.entryStore 41 (.map (some ba)) (.int .i64 st) (.int .i64 v)).run Try.prog w1 = .ok () w2 ∧
      (Instr.mapEntry 42 (.map (some bu)) (.int .i64 k)).run Try.prog w2 = .ok (.tuple #[v1, .int .i64 st']) w3 ∧
      (Instr.entryStore 42 (.map (some bu)) (.int .i64 st') (.bool true)).run Try.prog w3 = .ok () w4 ∧
      Bd w0 w4 p ba bu (n + 1) (upd A k (some v)) (upd U k true) b1 b2 b3 := by
  obtain ⟨v0, v1, st, st', w1, w2, w3, w4, r1, r2, r3, r4, A4, U4, B4, F4⟩ := two_puts h.a h.u h.h3 hn hk hv hno hno' h.below h.pa h.pu
  exact ⟨v0, v1, st, st', w1, w2, w3, w4, r1, r2, r3, r4, ⟨(F4 p (blk_lt h.bk) h.h1 h.h2).trans h.bk, A4, U4, h.h1, h.h2, h.h3, B4, h.pp, h.pa, h.pu⟩⟩
section
variable {ops : Array Oper} {rest : List Oper} {o : Oper} {a : Act} {Q : Exit → Act → World → Prop} {w0 W : World} {p ba bu n : Nat} {A : Int → Option Int} {U : Int → Bool} {b1 b2 b3 : Int}
theorem op_put (hgd : o.guard = none) (hd : o.dst = none) {m x y : Operand} {k v : Int} (hop : o.op = .mapUpdate 41 m x y) (hm : a.eval m = .map (some ba)) (hx : a.eval x = .int .i64 k) (hy : a.eval y = .int .i64 v)
    (B : Bd w0 W p ba bu n A U b1 b2 b3) (hn : n < maxLen) (hk : okI k) (hv : okI v) (h : ∀ w1, Bd w0 w1 p ba bu (n + 1) (upd A k (some v)) U b1 b2 b3 → wpList Try.prog ops Q rest a w1) : wpList Try.prog ops Q (o :: rest) a W := by
  obtain ⟨w', hr, hB⟩ := B.put hn hk hv
  exact op_upd hgd hd hop hm hx hy hr (h w' hB)
theorem op_dele (hgd : o.guard = none) (hd : o.dst = none) {m x : Operand} {k : Int} (hop : o.op = Op.call { callee := Callee.builtin Builtin.delete, args := #[m, x], argTypes := #[41, 3] }) (hm : a.eval m = .map (some ba)) (hx : a.eval x = .int .i64 k)
    (B : Bd w0 W p ba bu n A U b1 b2 b3) (hk : okI k) (h : ∀ w1, Bd w0 w1 p ba bu n (upd A k none) U b1 b2 b3 → wpList Try.prog ops Q rest a w1) : wpList Try.prog ops Q (o :: rest) a W := by
  obtain ⟨w', hr, hB⟩ := B.del hk o.type
  exact op_del hgd hd hop hm hx hr (h w' hB)
end
theorem okI_wrap (x : Int) : okI (wrap64 x) := by
  simp [okI, Lit.wf, IntKind.min, IntKind.max, IntKind.bits, IntKind.signed, wrap64]
  omega
theorem wp_bd {c : Code} {Q : Exit → Act → World → Prop} {a : Act} {w0 W0 : World} {p ba bu n : Nat} {A : Int → Option Int} {U : Int → Bool} {b1 b2 b3 : Int} (B : Bd w0 W0 p ba bu n A U b1 b2 b3)
    (h : ∀ W : World, Bd w0 W.drew p ba bu n A U b1 b2 b3 → Code.wp Try.prog c Q a W) : Code.wp Try.prog c Q a W0 := h W0 (B.same rfl B.below.drew)
theorem wp_forget {P : Program} {c : Code} {Q : Exit → Act → World → Prop} {a : Act} {w w0 W0 : World} (h0 : W0.heap = w.heap) (h1 : Below w0.heap.size w0 W0) (h : ∀ W : World, W.heap = w.heap → Below w0.heap.size w0 W → Code.wp P c Q a W) : Code.wp P c Q a W0 := h W0 h0 h1
theorem within_calls (a0 : Int) (a1 : Int) (a2 : Int) (w : World) :
    Calls Try.prog 32 #[.int .i64 a0, .int .i64 a1, .int .i64 a2] w fun e w' => e = .returned (.bool (decide (a1 ≤ a0) && decide (a0 ≤ a2))) ∧ Drawn0 w w' := by
  by_cases c4 : a1 ≤ a0
  · have c4b0 : decide (a1 ≤ a0) = true := decide_eq_true c4
    rw [c4b0, Bool.true_and]
    clear c4
    go_enter Try.func32, Try.ntmps32
    go_wp2
    go_ret
    exact ⟨by first | rfl | (simp; done) | (simp [*]; done), by repeat (first | exact Drawn0.refl _ | apply Drawn0.step)⟩
  · have c4b0 : decide (a1 ≤ a0) = false := decide_eq_false c4
    rw [c4b0, Bool.false_and]
    clear c4
    go_enter Try.func32, Try.ntmps32
    go_wp2
    go_ret
    exact ⟨by first | rfl | (simp; done) | (simp [*]; done), by repeat (first | exact Drawn0.refl _ | apply Drawn0.step)⟩

end Go.Proofs.Ytpmpcaahbhdiiaa.Ledger
