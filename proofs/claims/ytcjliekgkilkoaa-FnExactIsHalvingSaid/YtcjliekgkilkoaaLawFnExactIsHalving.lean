/- The given statement FnExactIsHalving, out of its pure statement and the walk of the Go text. No condition. -/
import Derived.Test.YtcjliekgkilkoaaRows
import Derived.Test.YtcjliekgkilkoaaQFnExactIsHalvingx5
import Derived.Test.YtcjliekgkilkoaaPureFnExactIsHalving
import Derived.Test.YtcjliekgkilkoaaOpens
import Derived.WalkKit
import Derived.ProofKit
import Derived.OpenShut
import Derived.ShutString
import Derived.ChangeOld
import Derived.Below
import Derived.SizedLaws
import Derived.Carry
namespace Go.Proofs.Ytcjliekgkilkoaa.fnExactIsHalving
open Go.ChangeShapes Go.WideShapes Go.ChangeAt Go.RowKit Go.Proofs.Ytcjliekgkilkoaa Go.Proofs.Ytcjliekgkilkoaa.QFnExactIsHalving Go.Proofs.YtcjliekgkilkoaaW.PrintWords
open Go.ChangeMaps (open_string shut_string)
set_option linter.unusedVariables false
theorem own : ownKnob Try.prog.godebug = none := by kernel_rfl
theorem laidOut : laidOutB Try.prog = true := by kernel_rfl
set_option maxRecDepth 100000 in
theorem lifted (os : Os) (started : os.Started) (H : Type) (enc : TypeId × Value → H) :
    ReturnsInHanded {} Try.checked os 6 .any (Rows.fnExactIsHalvingSpec.pre6 enc Try.prog Try.f6 Rows.fnExactIsHalvingRow.domain false) (Rows.fnExactIsHalvingSpec.post enc Try.prog Try.f6 false true false false) := by
  refine returnsInHanded_of_change_sized (C := Try.checked) own started (by kernel_rfl) Try.func6
    (ChangeSpec.witness6 (enc := enc) (C := Try.checked) false ⟨#[], #[.slice none 0 0, .agg #[.int .i64 0, .int .i64 0], .agg #[.int .i64 0, .int .i64 0]], []⟩ 8 (by kernel_rfl) (by kernel_rfl) (by kernel_rfl) (by kernel_rfl)) ?_
  intro W base args ds gs before hval0 hW hcnd hsz0 _
  have hsz : (DataW.weightsEach Try.prog (Try.f6.params.toList ++ Rows.fnExactIsHalvingSpec.plain.varTypes Try.prog) (ds ++ gs)).all (· ≤ reachBytes) = true := hsz0
  have hval : ∀ (j : Nat) t v, Try.f6.params[j]? = some t → args[j]? = some v → Value.okWide Try.prog W .any base t v := hval0
  have hW' := hW
  obtain ⟨p, q, hA0, hV, rfl, hfz, hnd⟩ := hW
  have hA : DataW.TrodAll enc Try.prog W 0 (fun _ => true) true Try.f6.params.toList args.toList ds p := hA0
  rw [Try.params6] at hA hval hsz
  obtain ⟨v0, vs0, d0, ds0, p0, q0, hargs, rfl, rfl, h0, r0⟩ := trodAll_cons hA
  obtain ⟨v1, vs1, d1, ds1, p1, q1, rfl, rfl, rfl, h1, r1⟩ := trodAll_cons r0
  obtain ⟨v2, vs2, d2, ds2, p2, q2, rfl, rfl, rfl, h2, r2⟩ := trodAll_cons r1
  obtain ⟨rfl, rfl, rfl⟩ := trodAll_nil r2
  obtain rfl : args = #[v0, v1, v2] := by cases args; simp_all
  obtain ⟨rfl, rfl⟩ := trodVars_none hV
  have k0 := h0
  have lt0 : ∀ x ∈ p0, x.block < W.heap.size := by obtain ⟨m, hm⟩ := k0; exact DataW.trod_lt m _ _ _ hm
  obtain ⟨A0, c0, l0, rfl, hc0, hr0, g0⟩ := Opens.open_arg_slice Try.underlying31 (Opens.opens_slice (d := k33) Try.underlying31 (by kernel_rfl) (Opens.opens_iso (g := fun a => ⟨a.1, a.2⟩) (fun _ => rfl) (Opens.opens_pair (dA := (Kd.int .i64)) (dB := (Kd.int .i64)) Try.underlying33 rfl rfl (by kernel_rfl) (by kernel_rfl) (by kernel_rfl) (Opens.opens_i64 Try.underlying3) (Opens.opens_i64 Try.underlying3)))) (hval 0 31 v0 rfl rfl) h0
  have k1 := h1
  have lt1 : ∀ x ∈ p1, x.block < W.heap.size := by obtain ⟨m, hm⟩ := k1; exact DataW.trod_lt m _ _ _ hm
  obtain ⟨cs1, x1, rfl, hx1, g1⟩ := Opens.open_arg_pair Try.underlying33 (Opens.opens_pair (dA := (Kd.int .i64)) (dB := (Kd.int .i64)) Try.underlying33 rfl rfl (by kernel_rfl) (by kernel_rfl) (by kernel_rfl) (Opens.opens_i64 Try.underlying3) (Opens.opens_i64 Try.underlying3)) (hval 1 33 v1 rfl rfl) h1
  obtain ⟨_, _, rfl, rfl, rfl⟩ := hx1
  have k2 := h2
  have lt2 : ∀ x ∈ p2, x.block < W.heap.size := by obtain ⟨m, hm⟩ := k2; exact DataW.trod_lt m _ _ _ hm
  obtain ⟨cs2, x2, rfl, hx2, g2⟩ := Opens.open_arg_pair Try.underlying33 (Opens.opens_pair (dA := (Kd.int .i64)) (dB := (Kd.int .i64)) Try.underlying33 rfl rfl (by kernel_rfl) (by kernel_rfl) (by kernel_rfl) (Opens.opens_i64 Try.underlying3) (Opens.opens_i64 Try.underlying3)) (hval 2 33 v2 rfl rfl) h2
  obtain ⟨_, _, rfl, rfl, rfl⟩ := hx2
  clear hA0 hval0 hsz0 hsz
  obtain ⟨kk, hk⟩ := Pure.FnExactIsHalving l0 x1.1 x1.2 x2.1 x2.2 g0 g1.1 g1.2 g2.1 g2.2
  refine (QFnExactIsHalving.laws_FnExactIsHalving.calls (k := kk) (r := true) (w := W) (A0 := A0) (c0 := c0) (l0 := l0) (hr0 := hr0) (hc0 := hc0) (a1_0 := x1.1) (a1_1 := x1.2) (a2_0 := x2.1) (a2_1 := x2.2) (h := hk)).mono ?_
  rintro e W' ⟨he, hd⟩
  have bel : Below W.heap.size W W' := hd
  subst he
  exact ⟨_, rfl, _, _, _, [], _, [], hW', trodAll_mk1 (shut_bool Try.underlying4 _), (trodAll_cons_mk (Below.trod laidOut (by kernel_rfl) (of_decide_eq_true (by kernel_rfl)) k0 bel lt0) (trodAll_cons_mk (Below.trod laidOut (by kernel_rfl) (of_decide_eq_true (by kernel_rfl)) k1 bel lt1) (trodAll_cons_mk (Below.trod laidOut (by kernel_rfl) (of_decide_eq_true (by kernel_rfl)) k2 bel lt2) trodAll_mk0))), rfl, bel.frame _, fun h => by cases h⟩
theorem over : Rows.fnExactIsHalvingRow.holds Try.pinned (OpenSpec.ofChange Rows.fnExactIsHalvingSpec) :=
  OpenClaim.holds_of_wide 6 Try.f6 rfl rfl rfl rfl rfl rfl rfl ⟨rfl, rfl, rfl, rfl, rfl⟩ rfl rfl rfl rfl rfl (by kernel_rfl) Try.func6 (by kernel_rfl)
    (of_decide_eq_true (by kernel_rfl)) (by unfold Func.isWrapper; first | (rw [if_pos (by decide +kernel)]; kernel_rfl) | (rw [if_neg (by decide +kernel)]; exact ⟨rfl, rfl⟩))
    (fun os started H enc _ => lifted os started H enc)
theorem proved : Rows.FnExactIsHalvingSaid := over
#print axioms proved
end Go.Proofs.Ytcjliekgkilkoaa.fnExactIsHalving
namespace Go.Proofs.Ytcjliekgkilkoaa
/-- The row, under a short name, for the claim. -/
theorem fnExactIsHalving_holds : Rows.FnExactIsHalvingSaid := fnExactIsHalving.proved
end Go.Proofs.Ytcjliekgkilkoaa
