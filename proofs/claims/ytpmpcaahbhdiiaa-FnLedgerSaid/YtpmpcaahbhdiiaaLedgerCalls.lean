import Derived.Test.YtpmpcaahbhdiiaaLedgerAdd
import Derived.Carry
namespace Go.Proofs.Ytpmpcaahbhdiiaa.Ledger
open Go.RowKit Go.Proofs.YtpmpcaahbhdiiaaW.PrintWords Go.Proofs.YtpmpcaahbhdiiaaW.PrintLast Go.Proofs.YtpmpcaahbhdiiaaW.PrintMore
open Go.WideShapes Go.MapKept Go.ChangeMaps
open Go.Maps (Keyed)
set_option linter.unusedVariables false
set_option linter.unusedSimpArgs false

set_option maxHeartbeats 8000000 in
set_option maxRecDepth 100000 in
theorem add_f1 (w0 w : World) (hB : Below w0.heap.size w0 w) (p : Nat) (A0 : Option Addr) (n c0 : Nat) (h : n ≠ 3) :
    Calls Try.prog 25 #[.pointer (some ⟨p, 0, none⟩), .slice A0 n c0] w fun ev w' => ev = .returned (.bool false) ∧ Below w0.heap.size w0 w' := by
  have HB := Aside0.mk hB
  clear hB
  have h1 : ((n : Int) != 3) = true := bne_iff_ne.mpr (by omega)
  have h2 : (n == 3) = false := beq_eq_false_iff_ne.mpr h
  have h3 : (n != 3) = true := bne_iff_ne.mpr h
  go_enter Try.func25, Try.ntmps25
  go_wp2
  go_ret
  exact ⟨by first | rfl | (simp; done) | (simp [*]; done), by repeat (first | (with_reducible first | exact HB.out | apply below_alloc | apply pw_below_drewN | apply below_drew1 | exact Below.drew HB.out) | exact HB.out)⟩

theorem entry_cells {w : World} {A0 : Option Addr} {e : List Int} (hr0 : Kd.C (Kd.int .i64) w A0 e.length e) (c1 : e.length = 3) :
    ∃ ad, A0 = some ad ∧ w.cell? ad = some (.int .i64 (rd e 0)) ∧ w.cell? ⟨ad.block, ad.off + 1, none⟩ = some (.int .i64 (rd e 1)) ∧ w.cell? ⟨ad.block, ad.off + 2, none⟩ = some (.int .i64 (rd e 2)) := by
  obtain ⟨ad, d0, rfl, _, hK0, hx0⟩ := Kd.C_get hr0 0 0 (by omega) (by omega)
  obtain ⟨ad1, d1, ea, _, hK1, hx1⟩ := Kd.C_get hr0 0 1 (by omega) (by omega)
  injection ea with ea
  subst ea
  obtain ⟨ad2, d2, ea, _, hK2, hx2⟩ := Kd.C_get hr0 0 2 (by omega) (by omega)
  injection ea with ea
  subst ea
  refine ⟨_, rfl, ?_, hx1 0 (.int .i64 (rd e 1)) (by rw [show d1 = [.int .i64 (rd e 1)] from hK1]; rfl), hx2 0 (.int .i64 (rd e 2)) (by rw [show d2 = [.int .i64 (rd e 2)] from hK2]; rfl)⟩
  have := hx0 0 (.int .i64 (rd e 0)) (by rw [show d0 = [.int .i64 (rd e 0)] from hK0]; rfl)
  simpa [Addr.add] using this

abbrev BdS (w0 w : World) (p ba bu n : Nat) (s : Bk) : Prop := Bd w0 w p ba bu n s.A s.U s.b1 s.b2 s.b3
theorem nop {w0 w' : World} {ev : Ending} {s : Bk} {p ba bu n : Nat} (h : ev = .returned (.bool false) ∧ Below w0.heap.size w0 w') :
    ev = .returned (.bool (none : Option Bk).isSome) ∧ Below w0.heap.size w0 w' ∧ ∀ s', (none : Option Bk) = some s' → BdS w0 w' p ba bu (n + 2) s' :=
  ⟨h.1, h.2, fun s' e => by cases e⟩
theorem yep {w0 w' : World} {ev : Ending} {s : Bk} {p ba bu n : Nat} (h : ev = .returned (.bool true) ∧ BdS w0 w' p ba bu (n + 2) s) :
    ev = .returned (.bool (some s).isSome) ∧ Below w0.heap.size w0 w' ∧ ∀ s', some s = some s' → BdS w0 w' p ba bu (n + 2) s' :=
  ⟨h.1, h.2.below, fun s' e => by cases e; exact h.2⟩

theorem add_calls (w0 w : World) (p ba bu n : Nat) (s : Bk) (hB : BdS w0 w p ba bu n s) (hn : n + 4 < maxLen) (A0 : Option Addr) (c0 : Nat) (e : List Int) (hr : Kd.C (Kd.int .i64) w A0 e.length e) (r : Option Bk) (h : addf s e = some r) :
    Calls Try.prog 25 #[.pointer (some ⟨p, 0, none⟩), .slice A0 e.length c0] w fun ev w' => ev = .returned (.bool r.isSome) ∧ Below w0.heap.size w0 w' ∧ ∀ s', r = some s' → BdS w0 w' p ba bu (n + 2) s' := by
  unfold addf at h
  by_cases c1 : e.length = 3
  · rw [if_pos c1] at h
    obtain ⟨ad, rfl, g0, g1, g2⟩ := entry_cells hr c1
    rw [c1]
    generalize rd e 0 = k at *
    generalize rd e 1 = m at *
    generalize rd e 2 = a at *
    by_cases c2 : 1 ≤ m ∧ m ≤ 99
    · rw [if_pos c2] at h
      by_cases c3 : k ≠ 5 ∧ ¬ (1 ≤ a ∧ a ≤ 1000)
      · rw [if_pos c3] at h
        obtain rfl := Option.some.inj h
        exact (add_f3 w0 w p ba bu n s.A s.U s.b1 s.b2 s.b3 hB hn ad c0 k m a g0 g1 g2 c2.1 c2.2 c3.1 (by have := c3.2; simp; omega)).mono (fun ev w' h => nop (s := s) h)
      · rw [if_neg c3] at h
        by_cases c4 : a < 1
        · rw [if_pos c4] at h
          obtain rfl := Option.some.inj h
          obtain rfl : k = 5 := Classical.byContradiction fun c => c3 ⟨c, by omega⟩
          exact (add_f4 w0 w p ba bu n s.A s.U s.b1 s.b2 s.b3 hB hn ad c0 m a g0 g1 g2 c2.1 c2.2 c4).mono (fun ev w' h => nop (s := s) h)
        · rw [if_neg c4] at h
          have ca : k ≠ 5 → a ≤ 1000 := fun c => Classical.byContradiction fun c' => c3 ⟨c, by omega⟩
          by_cases c5 : (s.A m).isSome = (k == 1)
          · rw [if_pos c5] at h
            obtain rfl := Option.some.inj h
            by_cases e1 : k = 1
            · subst e1
              exact (add_f5a w0 w p ba bu n s.A s.U s.b1 s.b2 s.b3 hB hn ad c0 m a g0 g1 g2 c2.1 c2.2 (by omega) (ca (by omega)) (by simpa using c5)).mono (fun ev w' h => nop (s := s) h)
            · have c7 : (s.A m).isSome = false := by rw [c5]; exact beq_eq_false_iff_ne.mpr e1
              by_cases e5 : k = 5
              · subst e5
                exact (add_f5b w0 w p ba bu n s.A s.U s.b1 s.b2 s.b3 hB hn ad c0 m a g0 g1 g2 c2.1 c2.2 (by omega) c7).mono (fun ev w' h => nop (s := s) h)
              · exact (add_f5c w0 w p ba bu n s.A s.U s.b1 s.b2 s.b3 hB hn ad c0 k m a g0 g1 g2 c2.1 c2.2 (by omega) (ca e5) e1 e5 c7).mono (fun ev w' h => nop (s := s) h)
          · rw [if_neg c5] at h
            by_cases e1 : k = 1
            · rw [if_pos e1] at h
              subst e1
              have c7 : (s.A m).isSome = false := by
                cases hh : (s.A m).isSome
                · rfl
                · exact absurd hh (by simpa using c5)
              by_cases c8 : s.U m = true
              · rw [if_pos c8] at h
                obtain rfl := Option.some.inj h
                exact (add_f6 w0 w p ba bu n s.A s.U s.b1 s.b2 s.b3 hB hn ad c0 m a g0 g1 g2 c2.1 c2.2 (by omega) (ca (by omega)) c7 c8).mono (fun ev w' h => nop (s := s) h)
              · rw [if_neg c8] at h
                obtain rfl := Option.some.inj h
                exact (add_s1 w0 w p ba bu n s.A s.U s.b1 s.b2 s.b3 hB hn ad c0 m a g0 g1 g2 c2.1 c2.2 (by omega) (ca (by omega)) c7 (by simpa using c8)).mono (fun ev w' h => yep h)
            · rw [if_neg e1] at h
              have c7 : (s.A m).isSome = true := by
                cases hh : (s.A m).isSome
                · exact absurd (hh.trans (beq_eq_false_iff_ne.mpr e1).symm) c5
                · rfl
              by_cases e2 : k = 2
              · rw [if_pos e2] at h
                subst e2
                by_cases c8 : a ≥ (s.A m).getD 0
                · rw [if_pos c8] at h
                  obtain rfl := Option.some.inj h
                  exact (add_f7_2 w0 w p ba bu n s.A s.U s.b1 s.b2 s.b3 hB hn ad c0 m a g0 g1 g2 c2.1 c2.2 (by omega) (ca (by omega)) c7 c8).mono (fun ev w' h => nop (s := s) h)
                · rw [if_neg c8] at h
                  obtain rfl := Option.some.inj h
                  exact (add_s2 w0 w p ba bu n s.A s.U s.b1 s.b2 s.b3 hB hn ad c0 m a g0 g1 g2 c2.1 c2.2 (by omega) (ca (by omega)) c7 c8).mono (fun ev w' h => yep h)
              · rw [if_neg e2] at h
                by_cases e3 : k = 3
                · rw [if_pos e3] at h
                  subst e3
                  by_cases c8 : a ≥ (s.A m).getD 0
                  · rw [if_pos c8] at h
                    obtain rfl := Option.some.inj h
                    exact (add_f7_3 w0 w p ba bu n s.A s.U s.b1 s.b2 s.b3 hB hn ad c0 m a g0 g1 g2 c2.1 c2.2 (by omega) (ca (by omega)) c7 c8).mono (fun ev w' h => nop (s := s) h)
                  · rw [if_neg c8] at h
                    rw [Option.bind_eq_some_iff] at h
                    obtain ⟨nx, hx, h⟩ := h
                    by_cases c9 : s.A nx = none
                    · rw [if_pos c9] at h
                      obtain rfl := Option.some.inj h
                      have hx' := nxtf_ok _ _ _ _ hx
                      exact (add_s3 w0 w p ba bu n s.A s.U s.b1 s.b2 s.b3 hB hn ad c0 m a g0 g1 g2 c2.1 c2.2 (by omega) (ca (by omega)) c7 c8 nx ⟨by omega, by omega, hx'.2.2.1, hx'.2.2.2⟩ c9).mono (fun ev w' h => yep h)
                    · rw [if_neg c9] at h
                      cases h
                · rw [if_neg e3] at h
                  by_cases e4 : k = 4
                  · rw [if_pos e4] at h
                    subst e4
                    by_cases c8 : (s.A a).isSome = false
                    · rw [if_pos c8] at h
                      obtain rfl := Option.some.inj h
                      exact (add_f8a w0 w p ba bu n s.A s.U s.b1 s.b2 s.b3 hB hn ad c0 m a g0 g1 g2 c2.1 c2.2 (by omega) (ca (by omega)) c7 c8).mono (fun ev w' h => nop (s := s) h)
                    · rw [if_neg c8] at h
                      have c8' : (s.A a).isSome = true := by
                        cases hh : (s.A a).isSome
                        · exact absurd hh c8
                        · rfl
                      by_cases c9 : a = m
                      · rw [if_pos c9] at h
                        obtain rfl := Option.some.inj h
                        exact (add_f8b w0 w p ba bu n s.A s.U s.b1 s.b2 s.b3 hB hn ad c0 m a g0 g1 g2 c2.1 c2.2 (by omega) (ca (by omega)) c7 c8' c9).mono (fun ev w' h => nop (s := s) h)
                      · rw [if_neg c9] at h
                        obtain rfl := Option.some.inj h
                        exact (add_s4 w0 w p ba bu n s.A s.U s.b1 s.b2 s.b3 hB hn ad c0 m a g0 g1 g2 c2.1 c2.2 (by omega) (ca (by omega)) c7 c8' c9).mono (fun ev w' h => yep h)
                  · rw [if_neg e4] at h
                    by_cases e5 : k = 5
                    · rw [if_pos e5] at h
                      subst e5
                      by_cases c8 : a ≠ (s.A m).getD 0
                      · rw [if_pos c8] at h
                        obtain rfl := Option.some.inj h
                        exact (add_f9 w0 w p ba bu n s.A s.U s.b1 s.b2 s.b3 hB hn ad c0 m a g0 g1 g2 c2.1 c2.2 (by omega) c7 c8).mono (fun ev w' h => nop (s := s) h)
                      · rw [if_neg c8] at h
                        obtain rfl := Option.some.inj h
                        exact (add_s5 w0 w p ba bu n s.A s.U s.b1 s.b2 s.b3 hB hn ad c0 m a g0 g1 g2 c2.1 c2.2 (by omega) c7 (Classical.byContradiction c8)).mono (fun ev w' h => yep h)
                    · rw [if_neg e5] at h
                      obtain rfl := Option.some.inj h
                      exact (add_f10 w0 w p ba bu n s.A s.U s.b1 s.b2 s.b3 hB hn ad c0 k m a g0 g1 g2 c2.1 c2.2 (by omega) (ca e5) e1 e2 e3 e4 e5 c7).mono (fun ev w' h => nop (s := s) h)
    · rw [if_neg c2] at h
      obtain rfl := Option.some.inj h
      exact (add_f2 w0 w p ba bu n s.A s.U s.b1 s.b2 s.b3 hB hn ad c0 k m a g0 g1 g2 (by simp; omega)).mono (fun ev w' h => nop (s := s) h)
  · rw [if_neg c1] at h
    obtain rfl := Option.some.inj h
    exact (add_f1 w0 w hB.below p A0 e.length c0 c1).mono (fun ev w' h => nop (s := s) h)

def rowAt (xs : List (List Int)) (i : Int) : List Int := xs.getD i.toNat ([] : List Int)
theorem at_row {w : World} {A : Option Addr} {n : Nat} {xs : List (List Int)} (h : Kd.C (Kd.slice 3 (Kd.int .i64)) w A n xs) (i : Int) (h0 : 0 ≤ i) (h1 : i < n) : ∃ ad A0 c0, A = some ad ∧ w.cell? (ad.add i.toNat) = some (.slice A0 (rowAt xs i).length c0) ∧ (rowAt xs i).length ≤ c0 ∧ (Kd.int .i64).C w A0 (rowAt xs i).length (rowAt xs i) := by
  obtain ⟨ad, c, e, _, hK, hc0⟩ := Kd.C_get h ([] : List Int) i h0 h1
  obtain ⟨A0, c0, rfl, l0, g0⟩ := hK
  refine ⟨ad, A0, c0, e, ?_, l0, g0⟩
  have hc : ∀ j u, ([.slice A0 (rowAt xs i).length c0] : List Value)[j]? = some u → w.cell? (ad.add (i.toNat * 1 + j)) = some u := hc0
  have hq := hc 0 _ rfl
  rwa [Nat.mul_one, Nat.add_zero] at hq
def perfl (l0 : List (List Int)) : Nat → Int → Bk → Option (Option Bk × Int)
  | 0, _, _ => none
  | k + 1, i, s => if i < (l0.length : Int) then (if i = 40 then some (none, i) else (addf s (rowAt l0 i)).bind fun o => match o with
    | none => some (none, i)
    | some s' => perfl l0 k (i + 1) s') else some (some s, -1)
def bk0 : Bk := ⟨fun _ => none, fun _ => false, 0, 0, 0⟩
def MadeAt (w w' : World) (p : Nat) (r : Option Bk) : Prop := Below w.heap.size w w' ∧ ∀ s, r = some s → ∃ ba bu n, n ≤ 200 ∧ BdS w w' p ba bu n s
theorem Bd.made (w : World) : Bd w (((w.alloc (.map #[] 0)).alloc (.map #[] 0)).alloc (.cells #[.map (some w.heap.size), .map (some (w.heap.size + 1)), .int .i64 0, .int .i64 0, .int .i64 0] 44 (0, 0))) (w.heap.size + 2) w.heap.size (w.heap.size + 1) 0 (fun _ => none) (fun _ => false) 0 0 0 := by
  have hs : (w.alloc (.map #[] 0)).heap.size = w.heap.size + 1 := by simp
  have hs2 : ((w.alloc (.map #[] 0)).alloc (.map #[] 0)).heap.size = w.heap.size + 2 := by simp
  refine ⟨?_, ?_, ?_, by omega, by omega, by omega, below_alloc (below_alloc (below_alloc (Below.refl _ _) _) _) _, by omega, by omega, by omega⟩
  · have := blk_new ((w.alloc (.map #[] 0)).alloc (.map #[] 0)) (.cells #[.map (some w.heap.size), .map (some (w.heap.size + 1)), .int .i64 0, .int .i64 0, .int .i64 0] 44 (0, 0))
    rw [hs2] at this
    exact this
  · exact (AMap.made w).kept ((Below.heap_alloc _ _ _ (by omega)).trans (Below.heap_alloc _ _ _ (by omega)))
  · have := UMap.made (w.alloc (.map #[] 0))
    rw [hs] at this
    exact this.kept (Below.heap_alloc _ _ _ (by omega))

set_option maxHeartbeats 8000000 in
set_option maxRecDepth 100000 in
theorem perform_calls (k : Nat) (A0 : Option Addr) (c0 : Nat) (l0 : List (List Int)) (r : Option Bk × Int) (w : World) (hr0 : Kd.C (Kd.slice 3 (Kd.int .i64)) w A0 l0.length l0) (hc0 : l0.length ≤ c0) (h : perfl l0 k 0 bk0 = some r) :
    Calls Try.prog 15 #[.slice A0 l0.length c0] w fun e w' => ∃ p, e = .returned (.tuple #[.pointer (some ⟨p, 0, none⟩), .int .i64 r.2]) ∧ MadeAt w w' p r.1 := by
  have HR0 := Aside0.mk hr0
  have HC0 := Aside0.mk hc0
  clear hr0 hc0
  have H' := Aside0.mk h
  clear h
  have hm1 := fun (w : World) => run_makeMap (P := Try.prog) 41 w
  have hm2 := fun (w : World) => run_makeMap (P := Try.prog) 42 w
  go_enter Try.func15, Try.ntmps15
  go_wp2
  clear hm1 hm2
  have hB : Bd w _ (w.heap.size + 1 + 1) w.heap.size (w.heap.size + 1) 0 (fun _ => none) (fun _ => false) 0 0 0 := Bd.made w
  generalize (((w.alloc (.map #[] 0)).alloc (.map #[] 0)).alloc (.cells #[.map (some w.heap.size), .map (some (w.heap.size + 1)), .int .i64 0, .int .i64 0, .int .i64 0] 44 (0, 0))) = w1 at hB ⊢
  generalize w.heap.size + 1 + 1 = p at hB ⊢
  generalize w.heap.size + 1 = bu at hB ⊢
  generalize w.heap.size = ba at hB ⊢
  have HB := Aside0.mk hB
  clear hB
  go_loopg [13] k (fun kq v13 w' => ∃ (s : Bk) (i : Int), v13 = .int .i64 i ∧ Aside0 (perfl l0 kq i s = some r) ∧ Aside0 (kq ≤ k) ∧ Aside0 (0 ≤ i ∧ i ≤ 40) ∧ Aside0 (BdS w w' p ba bu (2 * i.toNat) s))
  case atStart => exact ⟨bk0, 0, (by first | rfl | (simp; done) | (simp [*]; done)), H', ⟨Nat.le_refl _⟩, ⟨by omega⟩, ⟨HB.out⟩⟩
  case round =>
    clear H' HB
    obtain ⟨s, i, rfl, HA, HK1, HI, HB⟩ := hrel
    cases gk with
    | zero => exact absurd HA.out (by simp [perfl])
    | succ k1 =>
      have H := HA.out
      clear HA
      simp only [perfl] at H
      by_cases c5 : i < (l0.length : Int)
      · rw [if_pos c5] at H
        have c5b0 : decide (i < (l0.length : Int)) = true := decide_eq_true c5
        clear c5
        have p149 : 0 ≤ (i : Int) := by have := HI.out; omega
        have q149 : i < (l0.length : Int) := of_decide_eq_true (by first | (with_reducible assumption) | assumption)
        obtain ⟨ad149, A149_0, c149_0, e149, hx149_0, hl149_0, hi149_0⟩ := at_row HR0.out i p149 q149
        cases e149
        replace hx149_0 := (HB.out.below.cell (World.block_lt_of_cell? w _ hx149_0)).trans hx149_0
        have HR149_0 := Aside0.mk hi149_0
        have HC149_0 := Aside0.mk hl149_0
        clear hi149_0 hl149_0
        replace p149 := eq_true p149
        replace q149 := eq_true q149
        by_cases c8 : i = 40
        · rw [if_pos c8] at H
          have c8b0 : (i == 40) = true := beq_iff_eq.mpr c8
          have c8b1 : (i != 40) = false := bne_eq_false_iff_eq.mpr c8
          clear c8
          obtain rfl := Option.some.inj H
          go_wp2
          go_ret2
          exact ⟨p, by first | rfl | (simp [*] <;> rfl), (by repeat (first | (with_reducible first | exact HB.out.below | apply below_alloc | apply pw_below_drewN | apply below_drew1 | exact Below.drew HB.out.below) | exact HB.out.below)), fun s e => by cases e⟩
        · rw [if_neg c8] at H
          have c8b0 : (i == 40) = false := beq_eq_false_iff_ne.mpr c8
          have c8b1 : (i != 40) = true := bne_iff_ne.mpr c8
          have HC8 := Aside0.mk c8
          clear c8
          rw [Option.bind_eq_some_iff] at H
          obtain ⟨o, A9, H⟩ := H
          have HA9 := Aside0.mk A9
          clear A9
          cases o with
          | none =>
            obtain rfl := Option.some.inj H
            clear H
            go_wp2_with (first | (go_at_call 25; (with_reducible refine (add_calls w _ p ba bu (2 * i.toNat) s (HB.out.same (by simp [drawnN_heap, World.drew]) (by repeat (first | (with_reducible first | exact HB.out.below | apply below_alloc | apply pw_below_drewN | apply below_drew1 | exact Below.drew HB.out.below) | exact HB.out.below))) ?sn _ _ (rowAt l0 i) ?sr none HA9.out).mono ?_); (case sn => have := HI.out; show _ < maxLen; simp only [maxLen]; omega); (case sr => exact Kd.C_below HR149_0.out (by repeat (first | (with_reducible first | exact HB.out.below | apply below_alloc | apply pw_below_drewN | apply below_drew1 | exact Below.drew HB.out.below) | exact HB.out.below))); rintro ev w2 ⟨rfl, hbel, hbd⟩; have HB2 := Aside0.mk hbel; clear hbel hbd))
            go_ret2
            exact ⟨p, by first | rfl | (simp [*] <;> rfl), (by repeat (first | (with_reducible first | exact HB2.out | apply below_alloc | apply pw_below_drewN | apply below_drew1 | exact Below.drew HB2.out) | exact HB2.out)), fun s e => by cases e⟩
          | some s' =>
            have H2 := Aside0.mk H
            clear H
            go_wp2_with (first | (go_at_call 25; (with_reducible refine (add_calls w _ p ba bu (2 * i.toNat) s (HB.out.same (by simp [drawnN_heap, World.drew]) (by repeat (first | (with_reducible first | exact HB.out.below | apply below_alloc | apply pw_below_drewN | apply below_drew1 | exact Below.drew HB.out.below) | exact HB.out.below))) ?sn _ _ (rowAt l0 i) ?sr (some s') HA9.out).mono ?_); (case sn => have := HI.out; show _ < maxLen; simp only [maxLen]; omega); (case sr => exact Kd.C_below HR149_0.out (by repeat (first | (with_reducible first | exact HB.out.below | apply below_alloc | apply pw_below_drewN | apply below_drew1 | exact Below.drew HB.out.below) | exact HB.out.below))); rintro ev w2 ⟨rfl, hbel, hbd⟩; have HB2 := Aside0.mk (hbd s' rfl); clear hbel hbd))
            go_roundg k1
            case measure => have := HK1.out; omega
            case rel =>
              have ew : wrap64 (i + 1) = i + 1 := by have := HI.out; unfold wrap64; omega
              exact ⟨s', wrap64 (i + 1), (by first | rfl | (simp; done) | (simp [*]; done)), by rw [ew]; exact H2, ⟨by have := HK1.out; omega⟩, ⟨by have := HI.out; have := HC8.out; rw [ew]; omega⟩, ⟨(HB2.out.same (by simp [drawnN_heap, World.drew]) (by repeat (first | (with_reducible first | exact HB2.out.below | apply below_alloc | apply pw_below_drewN | apply below_drew1 | exact Below.drew HB2.out.below) | exact HB2.out.below))).mono (by have := HI.out; rw [ew]; omega)⟩⟩
      · rw [if_neg c5] at H
        have c5b0 : decide (i < (l0.length : Int)) = false := decide_eq_false c5
        clear c5
        obtain rfl := Option.some.inj H
        go_wp2
        go_ret2
        exact ⟨p, by first | rfl | (simp [*] <;> rfl), (by repeat (first | (with_reducible first | exact HB.out.below | apply below_alloc | apply pw_below_drewN | apply below_drew1 | exact Below.drew HB.out.below) | exact HB.out.below)), fun s' e => by cases e; exact ⟨ba, bu, _, by have := HI.out; omega, (HB.out.same (by simp [drawnN_heap, World.drew]) (by repeat (first | (with_reducible first | exact HB.out.below | apply below_alloc | apply pw_below_drewN | apply below_drew1 | exact Below.drew HB.out.below) | exact HB.out.below)))⟩⟩

theorem perfl_mono (l0 : List (List Int)) : ∀ (k : Nat) (i : Int) (s : Bk), LeO (perfl l0 k i s) (perfl l0 (k + 1) i s)
  | 0, _, _ => fun r h => by simp [perfl] at h
  | k + 1, i, s => by
    rw [perfl, perfl]
    refine LeO.ite (LeO.ite (LeO.refl _) (LeO.bind (LeO.refl _) (fun o => ?_))) (LeO.refl _)
    cases o with
    | none => exact LeO.refl _
    | some s' => exact perfl_mono l0 k (i + 1) s'

end Go.Proofs.Ytpmpcaahbhdiiaa.Ledger
