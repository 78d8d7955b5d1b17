/- The given statement FnExactHalveBoth, out of its pure statement and the walk of the Go text. No condition. -/
import Derived.Test.YtcjliekgkilkoaaRows
import Derived.Test.YtcjliekgkilkoaaQFnExactHalveBothx5
import Derived.Test.YtcjliekgkilkoaaPureFnExactHalveBoth
import Derived.Test.YtcjliekgkilkoaaOpens
import Derived.WalkKit
import Derived.ProofKit
import Derived.OpenShut
import Derived.ShutString
import Derived.ChangeOld
import Derived.Below
import Derived.SizedLaws
import Derived.Carry
namespace Go.Proofs.Ytcjliekgkilkoaa.fnExactHalveBoth
open Go.ChangeShapes Go.WideShapes Go.ChangeAt Go.RowKit Go.Proofs.Ytcjliekgkilkoaa Go.Proofs.Ytcjliekgkilkoaa.QFnExactHalveBoth Go.Proofs.YtcjliekgkilkoaaW.PrintWords
open Go.ChangeMaps (open_string shut_string)
set_option linter.unusedVariables false
theorem own : ownKnob Try.prog.godebug = none := by kernel_rfl
theorem laidOut : laidOutB Try.prog = true := by kernel_rfl
set_option maxRecDepth 100000 in
theorem lifted (os : Os) (started : os.Started) (H : Type) (enc : TypeId × Value → H) :
    ReturnsInHanded {} Try.checked os 10 .any (Rows.fnExactHalveBothSpec.pre6 enc Try.prog Try.f10 Rows.fnExactHalveBothRow.domain false) (Rows.fnExactHalveBothSpec.post enc Try.prog Try.f10 false true false false) := by
  refine returnsInHanded_of_change_sized (C := Try.checked) own started (by kernel_rfl) Try.func10
    (ChangeSpec.witness6 (enc := enc) (C := Try.checked) false ⟨#[], #[.slice none 0 0, .slice none 0 0], []⟩ 8 (by kernel_rfl) (by kernel_rfl) (by kernel_rfl) (by kernel_rfl)) ?_
  intro W base args ds gs before hval0 hW hcnd hsz0 _
  have hsz : (DataW.weightsEach Try.prog (Try.f10.params.toList ++ Rows.fnExactHalveBothSpec.plain.varTypes Try.prog) (ds ++ gs)).all (· ≤ reachBytes) = true := hsz0
  have hval : ∀ (j : Nat) t v, Try.f10.params[j]? = some t → args[j]? = some v → Value.okWide Try.prog W .any base t v := hval0
  have hW' := hW
  obtain ⟨p, q, hA0, hV, rfl, hfz, hnd⟩ := hW
  have hA : DataW.TrodAll enc Try.prog W 0 (fun _ => true) true Try.f10.params.toList args.toList ds p := hA0
  rw [Try.params10] at hA hval hsz
  obtain ⟨v0, vs0, d0, ds0, p0, q0, hargs, rfl, rfl, h0, r0⟩ := trodAll_cons hA
  obtain ⟨v1, vs1, d1, ds1, p1, q1, rfl, rfl, rfl, h1, r1⟩ := trodAll_cons r0
  obtain ⟨rfl, rfl, rfl⟩ := trodAll_nil r1
  obtain rfl : args = #[v0, v1] := by cases args; simp_all
  obtain ⟨rfl, rfl⟩ := trodVars_none hV
  have k0 := h0
  have lt0 : ∀ x ∈ p0, x.block < W.heap.size := by obtain ⟨m, hm⟩ := k0; exact DataW.trod_lt m _ _ _ hm
  obtain ⟨A0, c0, l0, rfl, hc0, hr0, g0⟩ := Opens.open_arg_slice Try.underlying31 (Opens.opens_slice (d := k33) Try.underlying31 (by kernel_rfl) (Opens.opens_iso (g := fun a => ⟨a.1, a.2⟩) (fun _ => rfl) (Opens.opens_pair (dA := (Kd.int .i64)) (dB := (Kd.int .i64)) Try.underlying33 rfl rfl (by kernel_rfl) (by kernel_rfl) (by kernel_rfl) (Opens.opens_i64 Try.underlying3) (Opens.opens_i64 Try.underlying3)))) (hval 0 31 v0 rfl rfl) h0
  have k1 := h1
  have lt1 : ∀ x ∈ p1, x.block < W.heap.size := by obtain ⟨m, hm⟩ := k1; exact DataW.trod_lt m _ _ _ hm
  obtain ⟨A1, c1, l1, rfl, hc1, hr1, g1⟩ := Opens.open_arg_slice Try.underlying31 (Opens.opens_slice (d := k33) Try.underlying31 (by kernel_rfl) (Opens.opens_iso (g := fun a => ⟨a.1, a.2⟩) (fun _ => rfl) (Opens.opens_pair (dA := (Kd.int .i64)) (dB := (Kd.int .i64)) Try.underlying33 rfl rfl (by kernel_rfl) (by kernel_rfl) (by kernel_rfl) (Opens.opens_i64 Try.underlying3) (Opens.opens_i64 Try.underlying3)))) (hval 1 31 v1 rfl rfl) h1
  clear hA0 hval0 hsz0 hsz
  obtain ⟨kk, hk⟩ := Pure.FnExactHalveBoth l0 l1 g0 g1
  refine (QFnExactHalveBoth.laws_FnExactHalveBoth.calls (k := kk) (r := true) (w := W) (A0 := A0) (c0 := c0) (l0 := l0) (hr0 := hr0) (hc0 := hc0) (A1 := A1) (c1 := c1) (l1 := l1) (hr1 := hr1) (hc1 := hc1) (h := hk)).mono ?_
  rintro e W' ⟨he, hd⟩
  have bel : Below W.heap.size W W' := hd
  subst he
  exact ⟨_, rfl, _, _, _, [], _, [], hW', trodAll_mk1 (shut_bool Try.underlying4 _), (trodAll_cons_mk (Below.trod laidOut (by kernel_rfl) (of_decide_eq_true (by kernel_rfl)) k0 bel lt0) (trodAll_cons_mk (Below.trod laidOut (by kernel_rfl) (of_decide_eq_true (by kernel_rfl)) k1 bel lt1) trodAll_mk0)), rfl, bel.frame _, fun h => by cases h⟩
theorem over : Rows.fnExactHalveBothRow.holds Try.pinned (OpenSpec.ofChange Rows.fnExactHalveBothSpec) :=
  OpenClaim.holds_of_wide 10 Try.f10 rfl rfl rfl rfl rfl rfl rfl ⟨rfl, rfl, rfl, rfl, rfl⟩ rfl rfl rfl rfl rfl (by kernel_rfl) Try.func10 (by kernel_rfl)
    (of_decide_eq_true (by kernel_rfl)) (by unfold Func.isWrapper; first | (rw [if_pos (by decide +kernel)]; kernel_rfl) | (rw [if_neg (by decide +kernel)]; exact ⟨rfl, rfl⟩))
    (fun os started H enc _ => lifted os started H enc)
theorem proved : Rows.FnExactHalveBothSaid := over
#print axioms proved
end Go.Proofs.Ytcjliekgkilkoaa.fnExactHalveBoth
namespace Go.Proofs.Ytcjliekgkilkoaa
/-- The row, under a short name, for the claim. -/
theorem fnExactHalveBoth_holds : Rows.FnExactHalveBothSaid := fnExactHalveBoth.proved
end Go.Proofs.Ytcjliekgkilkoaa
