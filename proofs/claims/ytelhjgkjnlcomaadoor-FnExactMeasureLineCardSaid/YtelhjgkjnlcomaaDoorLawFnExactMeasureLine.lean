/- The given statement FnExactMeasureLine, out of its pure statement and the walk of the Go text. No condition. -/
import Derived.Test.YtelhjgkjnlcomaaDoorRows
import Derived.Test.YtelhjgkjnlcomaaDoorQFnExactMeasureLinex14
import Derived.Test.YtelhjgkjnlcomaaDoorPureFnExactMeasureLine
import Derived.Test.YtelhjgkjnlcomaaDoorVOpens
import Derived.WalkKit
import Derived.ProofKit
import Derived.OpenShut
import Derived.ShutString
import Derived.ChangeOld
import Derived.Below
import Derived.SizedLaws
import Derived.Carry
import Derived.Test.YtelhjgkjnlcomaaDoorCards
import Derived.Test.YtelhjgkjnlcomaaDoorTie
import Derived.LaidMore
import Derived.Lay
import Derived.SevenTiedAt
import Derived.Stop.Joined
import Derived.Lib.LaidTab
import Derived.Stop.LaidErr
namespace Go.Proofs.YtelhjgkjnlcomaaDoor.fnExactMeasureLine
open Go.ChangeShapes Go.WideShapes Go.ChangeAt Go.RowKit Go.Proofs.YtelhjgkjnlcomaaDoor Go.Proofs.YtelhjgkjnlcomaaDoor.QFnExactMeasureLine Go.Proofs.YtelhjgkjnlcomaaDoorW.PrintWords
open Go.ChangeMaps (open_string shut_string)
set_option linter.unusedVariables false
theorem own : ownKnob Tryd.prog.godebug = none := by kernel_rfl
theorem laidOut : laidOutB Tryd.prog = true := by kernel_rfl
set_option maxRecDepth 100000 in
theorem lifted (os : Os) (started : os.Started) (H : Type) (enc : TypeId × Value → H) :
    ReturnsInHanded {} Tryd.checked os 5 .any (fun w args => (Rows.fnExactMeasureLineSpec.pre enc Tryd.prog Tryd.f5 Rows.fnExactMeasureLineRow.domain false w args ∧ laidMetH Tryd.prog Rows.fnExactMeasureLineRow.laid w) ∧ sizedMet enc Tryd.prog Tryd.f5 (OpenSpec.ofChange Rows.fnExactMeasureLineSpec) false w args) (Rows.fnExactMeasureLineSpec.post enc Tryd.prog Tryd.f5 false true false false) := by
  refine returnsInHanded_of_change_and (C := Tryd.checked) (X := fun w _ => laidMetH Tryd.prog Rows.fnExactMeasureLineRow.laid w) (fun _ _ _ hh h => h.of_heap hh) own started (by kernel_rfl) Tryd.func5
    (ChangeSpec.witness_shaped (enc := enc) (C := Tryd.checked) (os := os) (X := fun w _ => laidMetH Tryd.prog Rows.fnExactMeasureLineRow.laid w) false (World.laidAll Tryd.prog os Rows.fnExactMeasureLineRow.laid) #[.slice none 0 0] 8 (World.laidAll_os _ _ _)
      (World.shaped_of_ZipB (by kernel_rfl) (by kernel_rfl)) (by kernel_rfl) (by kernel_rfl) (by kernel_rfl)
      (by rw [MakeChecks.laidMetH_plain _ _ _ (by kernel_rfl)]; exact laidMet_laidAll _ (by kernel_rfl) (by kernel_rfl))) ?_
  intro W base args ds gs before hval0 hW hcnd hsz0 hL _
  have hsz : (DataW.weightsEach Tryd.prog (Tryd.f5.params.toList ++ Rows.fnExactMeasureLineSpec.plain.varTypes Tryd.prog) (ds ++ gs)).all (· ≤ reachBytes) = true := hsz0
  have hval : ∀ (j : Nat) t v, Tryd.f5.params[j]? = some t → args[j]? = some v → Value.okWide Tryd.prog W .any base t v := hval0
  have hW' := hW
  obtain ⟨p, q, hA0, hV, rfl, hfz, hnd⟩ := hW
  have hA : DataW.TrodAll enc Tryd.prog W 0 (fun _ => true) true Tryd.f5.params.toList args.toList ds p := hA0
  rw [Tryd.params5] at hA hval hsz
  obtain ⟨v0, vs0, d0, ds0, p0, q0, hargs, rfl, rfl, h0, r0⟩ := trodAll_cons hA
  obtain ⟨rfl, rfl, rfl⟩ := trodAll_nil r0
  obtain rfl : args = #[v0] := by cases args; simp_all
  obtain ⟨rfl, rfl⟩ := trodVars_none hV
  have k0 := h0
  have lt0 : ∀ x ∈ p0, x.block < W.heap.size := by obtain ⟨m, hm⟩ := k0; exact DataW.trod_lt m _ _ _ hm
  obtain ⟨A0, c0, l0, rfl, hc0, hr0, g0⟩ := Opens.open_arg_slice Tryd.underlying33 (Opens.opens_slice (d := k55) Tryd.underlying33 (by kernel_rfl) (Opens.opens_iso (g := fun a => ⟨a.1, a.2⟩) (fun _ => rfl) (Opens.opens_pair (dA := (Kd.int .i64)) (dB := (Kd.int .i64)) Tryd.underlying55 rfl rfl (by kernel_rfl) (by kernel_rfl) (by kernel_rfl) (Opens.opens_i64 Tryd.underlying3) (Opens.opens_i64 Tryd.underlying3)))) (hval 0 33 v0 rfl rfl) h0
  have hL1 : laidMet Tryd.prog Rows.fnExactMeasureLineRow.laid W := by rw [← MakeChecks.laidMetH_plain _ _ _ (by kernel_rfl)]; exact hL
  obtain ⟨rT, hT3⟩ : ∃ r, laidMet Tryd.prog (("internal/strconv.uint64pow10", Rows.laid_internal_strconv_uint64pow10) :: r) W := ⟨_, hL1.tail.tail⟩
  rw [show (Rows.laid_internal_strconv_uint64pow10 : DataW Unit) = Lib.tabData .u64 Lib.pow10Tab from by kernel_rfl] at hT3
  have gt_tab := Lib.tabIs_of_head (g := 0) (t := 145) (e := 126) (n := 20) (by kernel_rfl) (by kernel_rfl) Tryd.underlying145 Tryd.underlying126 (by kernel_rfl) (by kernel_rfl) hT3
  have hGT : Go.Proofs.YtelhjgkjnlcomaaDoor.QFnExactMeasureLine.GT W := ⟨gt_tab⟩
  clear hA0 hval0 hsz0 hsz
  obtain ⟨kk, hk⟩ := Pure.FnExactMeasureLine l0 g0
  refine (QFnExactMeasureLine.laws_FnExactMeasureLine.calls (k := kk) (r := true) (w := W) (A0 := A0) (c0 := c0) (l0 := l0) (hr0 := hr0) (hc0 := hc0) (h := hk) (hG := hGT)).mono ?_
  rintro e W' ⟨he, hd⟩
  have bel : Below W.heap.size W W' := hd
  subst he
  exact ⟨_, rfl, _, _, _, [], _, [], hW', trodAll_mk1 (shut_bool Tryd.underlying4 _), (trodAll_cons_mk (Below.trod laidOut (by kernel_rfl) (of_decide_eq_true (by kernel_rfl)) k0 bel lt0) trodAll_mk0), rfl, bel.frame _, fun h => by cases h⟩
theorem over : Rows.fnExactMeasureLineRow.holds Tryd.pinned (OpenSpec.ofChange Rows.fnExactMeasureLineSpec) :=
  OpenClaim.holds_of_wide 5 Tryd.f5 rfl rfl rfl rfl rfl rfl rfl ⟨rfl, rfl, rfl, rfl, rfl⟩ rfl rfl rfl rfl rfl (by kernel_rfl) Tryd.func5 (by kernel_rfl)
    (of_decide_eq_true (by kernel_rfl)) (by unfold Func.isWrapper; first | (rw [if_pos (by decide +kernel)]; kernel_rfl) | (rw [if_neg (by decide +kernel)]; exact ⟨rfl, rfl⟩))
    (fun os started H enc _ => lifted os started H enc)
theorem proved : Rows.FnExactMeasureLineSaid := over
theorem card : Rows.FnExactMeasureLineCardSaid :=
  Claim7.holds_tied_plain_at .later [] [.data, .data, .data] true (true, "f3acf855ec21ed18f61c3805adda93b96b9b69b6d9610d7dc64a75cb024dc162") false proved (fun _ h => by cases h) (by kernel_rfl) (fun _ h => by cases h) fnExactMeasureLine_row_tie rfl ⟨rfl, rfl⟩ (by kernel_rfl) rfl
    (fun f fn hf hfn => by
      obtain rfl : f = 5 := Option.some.inj ((show Tryd.prog.funcNamed "loop.example/g03208/laws.FnExactMeasureLine" = some 5 by kernel_rfl).symm.trans hf) |>.symm
      obtain rfl : fn = Tryd.f5 := (Option.some.inj (Tryd.func5.symm.trans hfn)).symm
      exact ⟨by kernel_rfl, fun j t ht => by
        rw [Tryd.params5] at ht
        have hm : t ∈ [33] := by simpa using Array.mem_of_getElem? ht
        have hall : ([33].all fun u => !Tryd.prog.wantsStandIn u) = true := by kernel_rfl
        exact (show Tryd.prog.wantsStandIn t = false by simpa using List.all_eq_true.1 hall t hm)⟩)
    (by kernel_rfl)
#print axioms card
#print axioms proved
end Go.Proofs.YtelhjgkjnlcomaaDoor.fnExactMeasureLine
namespace Go.Proofs.YtelhjgkjnlcomaaDoor
/-- The row, under a short name, for the claim. -/
theorem fnExactMeasureLine_holds : Rows.FnExactMeasureLineCardSaid := fnExactMeasureLine.card
end Go.Proofs.YtelhjgkjnlcomaaDoor
