/- The given statement FnExactTableOk, out of its pure statement and the walk of the Go text. No condition. -/
import Derived.Test.YteelfcmlghjknaaRows
import Derived.Test.YteelfcmlghjknaaQFnExactTableOkx10
import Derived.Test.YteelfcmlghjknaaPureFnExactTableOk
import Derived.Test.YteelfcmlghjknaaOpens
import Derived.WalkKit
import Derived.ProofKit
import Derived.OpenShut
import Derived.ShutString
import Derived.ChangeOld
import Derived.Below
import Derived.SizedLaws
import Derived.Carry
namespace Go.Proofs.Yteelfcmlghjknaa.fnExactTableOk
open Go.ChangeShapes Go.WideShapes Go.ChangeAt Go.RowKit Go.Proofs.Yteelfcmlghjknaa Go.Proofs.Yteelfcmlghjknaa.QFnExactTableOk Go.Proofs.YteelfcmlghjknaaW.PrintWords
open Go.ChangeMaps (open_string shut_string)
set_option linter.unusedVariables false
theorem own : ownKnob Try.prog.godebug = none := by kernel_rfl
theorem laidOut : laidOutB Try.prog = true := by kernel_rfl
set_option maxRecDepth 100000 in
theorem lifted (os : Os) (started : os.Started) (H : Type) (enc : TypeId × Value → H) :
    ReturnsInHanded {} Try.checked os 7 .any (Rows.fnExactTableOkSpec.pre6 enc Try.prog Try.f7 Rows.fnExactTableOkRow.domain false) (Rows.fnExactTableOkSpec.post enc Try.prog Try.f7 false true false false) := by
  refine returnsInHanded_of_change_sized (C := Try.checked) own started (by kernel_rfl) Try.func7
    (ChangeSpec.witness6 (enc := enc) (C := Try.checked) false ⟨#[], #[.agg #[.slice none 0 0, .slice none 0 0]], []⟩ 8 (by kernel_rfl) (by kernel_rfl) (by kernel_rfl) (by kernel_rfl)) ?_
  intro W base args ds gs before hval0 hW hcnd hsz0 _
  have hsz : (DataW.weightsEach Try.prog (Try.f7.params.toList ++ Rows.fnExactTableOkSpec.plain.varTypes Try.prog) (ds ++ gs)).all (· ≤ reachBytes) = true := hsz0
  have hval : ∀ (j : Nat) t v, Try.f7.params[j]? = some t → args[j]? = some v → Value.okWide Try.prog W .any base t v := hval0
  have hW' := hW
  obtain ⟨p, q, hA0, hV, rfl, hfz, hnd⟩ := hW
  have hA : DataW.TrodAll enc Try.prog W 0 (fun _ => true) true Try.f7.params.toList args.toList ds p := hA0
  rw [Try.params7] at hA hval hsz
  obtain ⟨v0, vs0, d0, ds0, p0, q0, hargs, rfl, rfl, h0, r0⟩ := trodAll_cons hA
  obtain ⟨rfl, rfl, rfl⟩ := trodAll_nil r0
  obtain rfl : args = #[v0] := by cases args; simp_all
  obtain ⟨rfl, rfl⟩ := trodVars_none hV
  have k0 := h0
  have lt0 : ∀ x ∈ p0, x.block < W.heap.size := by obtain ⟨m, hm⟩ := k0; exact DataW.trod_lt m _ _ _ hm
  obtain ⟨cs0, x0, rfl, hx0, g0⟩ := Opens.open_arg_pair Try.underlying49 (Opens.opens_pair (dA := (Kd.slice 69 k69)) (dB := (Kd.slice 39 (Kd.slice 3 (Kd.int .i64)))) Try.underlying49 rfl rfl (by kernel_rfl) (by kernel_rfl) (by kernel_rfl) (Opens.opens_slice (d := k69) Try.underlying30 (by kernel_rfl) (Opens.opens_iso (g := fun a => ⟨a.1, a.2⟩) (fun _ => rfl) (Opens.opens_pair (dA := (Kd.int .i64)) (dB := (Kd.int .i64)) Try.underlying69 rfl rfl (by kernel_rfl) (by kernel_rfl) (by kernel_rfl) (Opens.opens_i64 Try.underlying3) (Opens.opens_i64 Try.underlying3)))) (Opens.opens_slice (d := (Kd.slice 3 (Kd.int .i64))) Try.underlying23 (by kernel_rfl) (Opens.opens_slice (d := (Kd.int .i64)) Try.underlying39 (by kernel_rfl) (Opens.opens_i64 Try.underlying3)))) (hval 0 49 v0 rfl rfl) h0
  obtain ⟨_, _, rfl, ⟨A0_0, c0_0, rfl, hc0_0, hr0_0⟩, ⟨A0_1, c0_1, rfl, hc0_1, hr0_1⟩⟩ := hx0
  clear hA0 hval0 hsz0 hsz
  obtain ⟨kk, hk⟩ := Pure.FnExactTableOk x0.1 x0.2 g0.1 g0.2
  refine (QFnExactTableOk.laws_FnExactTableOk.calls (k := kk) (r := true) (w := W) (A0_0 := A0_0) (c0_0 := c0_0) (l0_0 := x0.1) (hr0_0 := hr0_0) (hc0_0 := hc0_0) (A0_1 := A0_1) (c0_1 := c0_1) (l0_1 := x0.2) (hr0_1 := hr0_1) (hc0_1 := hc0_1) (h := hk)).mono ?_
  rintro e W' ⟨he, hd⟩
  have bel : Below W.heap.size W W' := hd
  subst he
  exact ⟨_, rfl, _, _, _, [], _, [], hW', trodAll_mk1 (shut_bool Try.underlying4 _), (trodAll_cons_mk (Below.trod laidOut (by kernel_rfl) (of_decide_eq_true (by kernel_rfl)) k0 bel lt0) trodAll_mk0), rfl, bel.frame _, fun h => by cases h⟩
theorem over : Rows.fnExactTableOkRow.holds Try.pinned (OpenSpec.ofChange Rows.fnExactTableOkSpec) :=
  OpenClaim.holds_of_wide 7 Try.f7 rfl rfl rfl rfl rfl rfl rfl ⟨rfl, rfl, rfl, rfl, rfl⟩ rfl rfl rfl rfl rfl (by kernel_rfl) Try.func7 (by kernel_rfl)
    (of_decide_eq_true (by kernel_rfl)) (by unfold Func.isWrapper; first | (rw [if_pos (by decide +kernel)]; kernel_rfl) | (rw [if_neg (by decide +kernel)]; exact ⟨rfl, rfl⟩))
    (fun os started H enc _ => lifted os started H enc)
theorem proved : Rows.FnExactTableOkSaid := over
#print axioms proved
end Go.Proofs.Yteelfcmlghjknaa.fnExactTableOk
namespace Go.Proofs.Yteelfcmlghjknaa
/-- The row, under a short name, for the claim. -/
theorem fnExactTableOk_holds : Rows.FnExactTableOkSaid := fnExactTableOk.proved
end Go.Proofs.Yteelfcmlghjknaa
