/- The row of the law FnExactTermCircuit: for every input the call answers true and leaves its argument as it was. Conditions: none beyond the given statement's own. -/
import Derived.Test.YteefbjkhheghkaaRows
import Derived.Test.YteefbjkhheghkaaOpen
import Derived.Test.YteefbjkhheghkaaQFnExactTermCircuitx6
import Derived.Test.YteefbjkhheghkaaPureFnExactTermCircuit
import Derived.WalkKit
import Derived.ProofKit
import Derived.OpenShut
import Derived.ShutString
import Derived.ChangeOld
import Derived.Below
import Derived.SizedLaws
namespace Go.Proofs.Yteefbjkhheghkaa.fnExactTermCircuit
open Go.ChangeShapes Go.WideShapes Go.ChangeAt Go.RowKit Go.Proofs.Yteefbjkhheghkaa.Open Go.Proofs.Yteefbjkhheghkaa.QFnExactTermCircuit Go.Proofs.YteefbjkhheghkaaW.PrintWords
open Go.ChangeMaps (open_string shut_string)
set_option linter.unusedVariables false
theorem own : ownKnob Try.prog.godebug = none := by kernel_rfl
theorem laidOut : laidOutB Try.prog = true := by kernel_rfl
set_option maxRecDepth 100000 in
theorem lifted (os : Os) (started : os.Started) (H : Type) (enc : TypeId × Value → H) :
    ReturnsInHanded {} Try.checked os 6 .any (Rows.fnExactTermCircuitSpec.pre6 enc Try.prog Try.f6 Rows.fnExactTermCircuitRow.domain false) (Rows.fnExactTermCircuitSpec.post enc Try.prog Try.f6 false true false false) := by
  refine returnsInHanded_of_change_sized (C := Try.checked) own started (by kernel_rfl) Try.func6
    (ChangeSpec.witness6 (enc := enc) (C := Try.checked) false ⟨#[], #[.agg #[.int .i64 0, .slice none 0 0]], []⟩ 8 (by kernel_rfl) (by kernel_rfl) (by kernel_rfl) (by kernel_rfl)) ?_
  intro W base args ds gs before hval0 hW hcnd hsz0 _
  have hsz : (DataW.weightsEach Try.prog (Try.f6.params.toList ++ Rows.fnExactTermCircuitSpec.plain.varTypes Try.prog) (ds ++ gs)).all (· ≤ reachBytes) = true := hsz0
  have hval : ∀ (j : Nat) t v, Try.f6.params[j]? = some t → args[j]? = some v → Value.okWide Try.prog W .any base t v := hval0
  have hW' := hW
  obtain ⟨p, q, hA0, hV, rfl, hfz, hnd⟩ := hW
  have hA : DataW.TrodAll enc Try.prog W 0 (fun _ => true) true Try.f6.params.toList args.toList ds p := hA0
  rw [Try.params6] at hA hval hsz
  obtain ⟨v0, vs0, d0, ds0, p0, q0, hargs, rfl, rfl, h0, r0⟩ := trodAll_cons hA
  obtain ⟨rfl, rfl, rfl⟩ := trodAll_nil r0
  obtain rfl : args = #[v0] := by cases args; simp_all
  obtain ⟨rfl, rfl⟩ := trodVars_none hV
  have k0 := h0
  have lt0 : ∀ x ∈ p0, x.block < W.heap.size := by obtain ⟨m, hm⟩ := k0; exact DataW.trod_lt m _ _ _ hm
  obtain ⟨cs0, ⟨a0_0, a0_1⟩, rfl, hK0, ⟨w0_0, w0_1⟩⟩ := arg_struct Try.underlying43 (opens_two Try.underlying43 (by kernel_rfl) (opens_i64 Try.underlying3 (by kernel_rfl)) (opens_slice Try.underlying24 (by kernel_rfl) (opens_i64 Try.underlying3 (by kernel_rfl))) rfl rfl) (hval 0 43 v0 rfl rfl) h0
  obtain ⟨_, _, he0, rfl, ⟨A0_1, c0_1, rfl, hc0_1, hr0_1⟩⟩ := hK0
  obtain rfl : cs0 = #[.int .i64 a0_0, .slice A0_1 a0_1.length c0_1] := by cases cs0; simpa using he0
  clear hA0 hval0 hsz0 hsz
  obtain ⟨k, hk⟩ := Pure.FnExactTermCircuit a0_0 a0_1 w0_0 w0_1
  refine (laws_FnExactTermCircuit.calls k a0_0 _ _ a0_1 true W hr0_1 hc0_1 hk).mono fun e W' ⟨he, bel0⟩ => ?_
  have bel : Below W.heap.size W W' := bel0
  subst he
  exact ⟨_, rfl, _, _, _, [], _, [], hW', trodAll_mk1 (shut_bool Try.underlying4 _), (trodAll_cons_mk (Below.trod laidOut (by kernel_rfl) (of_decide_eq_true (by kernel_rfl)) k0 bel lt0) trodAll_mk0), rfl, bel.frame _, fun h => by cases h⟩
theorem over : Rows.fnExactTermCircuitRow.holds Try.pinned (OpenSpec.ofChange Rows.fnExactTermCircuitSpec) :=
  OpenClaim.holds_of_wide 6 Try.f6 rfl rfl rfl rfl rfl rfl rfl ⟨rfl, rfl, rfl, rfl, rfl⟩ rfl rfl rfl rfl rfl (by kernel_rfl) Try.func6 (by kernel_rfl)
    (of_decide_eq_true (by kernel_rfl)) (by unfold Func.isWrapper; first | (rw [if_pos (by decide +kernel)]; kernel_rfl) | (rw [if_neg (by decide +kernel)]; exact ⟨rfl, rfl⟩))
    (fun os started H enc _ => lifted os started H enc)
theorem proved : Rows.FnExactTermCircuitSaid := over
end Go.Proofs.Yteefbjkhheghkaa.fnExactTermCircuit
namespace Go.Proofs.Yteefbjkhheghkaa
/-- The row, under a short name, for the claim. -/
theorem fnExactTermCircuit_holds : Rows.FnExactTermCircuitSaid := fnExactTermCircuit.proved
#print axioms fnExactTermCircuit_holds
end Go.Proofs.Yteefbjkhheghkaa
