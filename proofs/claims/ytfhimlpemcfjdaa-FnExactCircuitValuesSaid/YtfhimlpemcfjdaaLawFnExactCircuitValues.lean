/- The row of the law FnExactCircuitValues: for every input the call answers true and leaves its argument as it was. Conditions: none beyond the given statement's own. -/
import Derived.Test.YtfhimlpemcfjdaaRows
import Derived.Test.YtfhimlpemcfjdaaOpen
import Derived.Test.YtfhimlpemcfjdaaPFnExactCircuitValuesx8
import Derived.Test.YtfhimlpemcfjdaaPureFnExactCircuitValues
import Derived.WalkKit
import Derived.ProofKit
import Derived.OpenShut
import Derived.ShutString
import Derived.ChangeOld
import Derived.Below
import Derived.SizedLaws
namespace Go.Proofs.Ytfhimlpemcfjdaa.fnExactCircuitValues
open Go.ChangeShapes Go.WideShapes Go.ChangeAt Go.RowKit Go.Proofs.Ytfhimlpemcfjdaa.Open Go.Proofs.Ytfhimlpemcfjdaa.PFnExactCircuitValues Go.Proofs.YtfhimlpemcfjdaaW.PrintWords
open Go.ChangeMaps (open_string shut_string)
set_option linter.unusedVariables false
theorem own : ownKnob Try.prog.godebug = none := by kernel_rfl
theorem laidOut : laidOutB Try.prog = true := by kernel_rfl
set_option maxRecDepth 100000 in
theorem lifted (os : Os) (started : os.Started) (H : Type) (enc : TypeId × Value → H) :
    ReturnsInHanded {} Try.checked os 7 .any (Rows.fnExactCircuitValuesSpec.pre6 enc Try.prog Try.f7 Rows.fnExactCircuitValuesRow.domain false) (Rows.fnExactCircuitValuesSpec.post enc Try.prog Try.f7 false true false false) := by
  refine returnsInHanded_of_change_sized (C := Try.checked) own started (by kernel_rfl) Try.func7
    (ChangeSpec.witness6 (enc := enc) (C := Try.checked) false ⟨#[], #[.agg #[.int .i64 0, .slice none 0 0, .slice none 0 0], .slice none 0 0], []⟩ 8 (by kernel_rfl) (by kernel_rfl) (by kernel_rfl) (by kernel_rfl)) ?_
  intro W base args ds gs before hval0 hW hcnd hsz0 _
  have hsz : (DataW.weightsEach Try.prog (Try.f7.params.toList ++ Rows.fnExactCircuitValuesSpec.plain.varTypes Try.prog) (ds ++ gs)).all (· ≤ reachBytes) = true := hsz0
  have hval : ∀ (j : Nat) t v, Try.f7.params[j]? = some t → args[j]? = some v → Value.okWide Try.prog W .any base t v := hval0
  have hW' := hW
  obtain ⟨p, q, hA0, hV, rfl, hfz, hnd⟩ := hW
  have hA : DataW.TrodAll enc Try.prog W 0 (fun _ => true) true Try.f7.params.toList args.toList ds p := hA0
  rw [Try.params7] at hA hval hsz
  obtain ⟨v0, vs0, d0, ds0, p0, q0, hargs, rfl, rfl, h0, r0⟩ := trodAll_cons hA
  obtain ⟨v1, vs1, d1, ds1, p1, q1, rfl, rfl, rfl, h1, r1⟩ := trodAll_cons r0
  obtain ⟨rfl, rfl, rfl⟩ := trodAll_nil r1
  obtain rfl : args = #[v0, v1] := by cases args; simp_all
  obtain ⟨rfl, rfl⟩ := trodVars_none hV
  have k0 := h0
  have lt0 : ∀ x ∈ p0, x.block < W.heap.size := by obtain ⟨m, hm⟩ := k0; exact DataW.trod_lt m _ _ _ hm
  obtain ⟨cs0, ⟨a0_0, a0_1, a0_2⟩, rfl, hK0, ⟨w0_0, w0_1, w0_2⟩⟩ := arg_struct Try.underlying41 (opens_three Try.underlying41 (by kernel_rfl) (opens_i64 Try.underlying3 (by kernel_rfl)) (opens_slice Try.underlying39 (by kernel_rfl) (show Opens Try.prog k111 111 (fun x : S111 => I64 x.f0 ∧ I64 x.f1 ∧ I64 x.f2) from opens_iso (opens_three Try.underlying111 (by kernel_rfl) (opens_i64 Try.underlying3 (by kernel_rfl)) (opens_i64 Try.underlying3 (by kernel_rfl)) (opens_i64 Try.underlying3 (by kernel_rfl)) rfl rfl rfl) (fun x : S111 => (x.f0, x.f1, x.f2)) (fun p => ⟨p.1, p.2.1, p.2.2⟩) (fun _ => rfl))) (opens_slice Try.underlying23 (by kernel_rfl) (opens_i64 Try.underlying3 (by kernel_rfl))) rfl rfl rfl) (hval 0 41 v0 rfl rfl) h0
  obtain ⟨_, _, he0, rfl, ⟨_, _, rfl, ⟨A0_1, c0_1, rfl, hc0_1, hr0_1⟩, ⟨A0_2, c0_2, rfl, hc0_2, hr0_2⟩⟩⟩ := hK0
  obtain rfl : cs0 = #[.int .i64 a0_0, .slice A0_1 a0_1.length c0_1, .slice A0_2 a0_2.length c0_2] := by cases cs0; simpa using he0
  have k1 := h1
  have lt1 : ∀ x ∈ p1, x.block < W.heap.size := by obtain ⟨m, hm⟩ := k1; exact DataW.trod_lt m _ _ _ hm
  obtain ⟨A1, c1, l1, rfl, hc1, hr1, w1⟩ := arg_slice Try.underlying23 (opens_slice Try.underlying23 (by kernel_rfl) (opens_i64 Try.underlying3 (by kernel_rfl))) (hval 1 23 v1 rfl rfl) h1
  clear hA0 hval0 hsz0 hsz
  obtain ⟨k, hk⟩ := Pure.FnExactCircuitValues a0_0 a0_1 a0_2 l1 w0_0 w0_1 w0_2 w1
  refine (laws_FnExactCircuitValues.calls k a0_0 _ _ a0_1 _ _ a0_2 _ _ l1 true W hr0_1 hc0_1 hr0_2 hc0_2 hr1 hc1 hk).mono fun e W' ⟨he, bel0⟩ => ?_
  have bel : Below W.heap.size W W' := bel0
  subst he
  exact ⟨_, rfl, _, _, _, [], _, [], hW', trodAll_mk1 (shut_bool Try.underlying4 _), (trodAll_cons_mk (Below.trod laidOut (by kernel_rfl) (of_decide_eq_true (by kernel_rfl)) k0 bel lt0) (trodAll_cons_mk (Below.trod laidOut (by kernel_rfl) (of_decide_eq_true (by kernel_rfl)) k1 bel lt1) trodAll_mk0)), rfl, bel.frame _, fun h => by cases h⟩
theorem over : Rows.fnExactCircuitValuesRow.holds Try.pinned (OpenSpec.ofChange Rows.fnExactCircuitValuesSpec) :=
  OpenClaim.holds_of_wide 7 Try.f7 rfl rfl rfl rfl rfl rfl rfl ⟨rfl, rfl, rfl, rfl, rfl⟩ rfl rfl rfl rfl rfl (by kernel_rfl) Try.func7 (by kernel_rfl)
    (of_decide_eq_true (by kernel_rfl)) (by unfold Func.isWrapper; first | (rw [if_pos (by decide +kernel)]; kernel_rfl) | (rw [if_neg (by decide +kernel)]; exact ⟨rfl, rfl⟩))
    (fun os started H enc _ => lifted os started H enc)
theorem proved : Rows.FnExactCircuitValuesSaid := over
end Go.Proofs.Ytfhimlpemcfjdaa.fnExactCircuitValues
namespace Go.Proofs.Ytfhimlpemcfjdaa
/-- The row, under a short name, for the claim. -/
theorem fnExactCircuitValues_holds : Rows.FnExactCircuitValuesSaid := fnExactCircuitValues.proved
#print axioms fnExactCircuitValues_holds
end Go.Proofs.Ytfhimlpemcfjdaa
