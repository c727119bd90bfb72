/- The row of the law FnExactLevelWires: for every input the call answers true and leaves its argument as it was. Conditions: none beyond the given statement's own. -/
import Derived.Test.YtnldkpljchkkbaaRows
import Derived.Test.YtnldkpljchkkbaaVLWOpen
import Derived.Test.YtnldkpljchkkbaaWalkFnExactLevelWires
import Derived.Test.YtnldkpljchkkbaaPureFnExactLevelWires
import Derived.WalkKit
import Derived.ProofKit
import Derived.OpenShut
import Derived.ShutString
import Derived.ChangeOld
import Derived.Below
import Derived.SizedLaws
namespace Go.Proofs.Ytnldkpljchkkbaa.fnExactLevelWires
open Go.ChangeShapes Go.WideShapes Go.ChangeAt Go.RowKit Go.Proofs.Ytnldkpljchkkbaa.Open Go.Proofs.Ytnldkpljchkkbaa.QFnExactLevelWires Go.Proofs.YtnldkpljchkkbaaW.PrintWords
open Go.ChangeMaps (open_string shut_string)
set_option linter.unusedVariables false
theorem own : ownKnob Try.prog.godebug = none := by kernel_rfl
theorem laidOut : laidOutB Try.prog = true := by kernel_rfl
set_option maxRecDepth 100000 in
theorem lifted (os : Os) (started : os.Started) (H : Type) (enc : TypeId × Value → H) :
    ReturnsInHanded {} Try.checked os 4 .any (Rows.fnExactLevelWiresSpec.pre6 enc Try.prog Try.f4 Rows.fnExactLevelWiresRow.domain false) (Rows.fnExactLevelWiresSpec.post enc Try.prog Try.f4 false true false false) := by
  refine returnsInHanded_of_change_sized (C := Try.checked) own started (by kernel_rfl) Try.func4
    (ChangeSpec.witness6 (enc := enc) (C := Try.checked) false ⟨#[], #[.agg #[.int .i64 0, .slice none 0 0, .slice none 0 0], .int .i64 0], []⟩ 8 (by kernel_rfl) (by kernel_rfl) (by kernel_rfl) (by kernel_rfl)) ?_
  intro W base args ds gs before hval0 hW hcnd hsz0 _
  have hsz : (DataW.weightsEach Try.prog (Try.f4.params.toList ++ Rows.fnExactLevelWiresSpec.plain.varTypes Try.prog) (ds ++ gs)).all (· ≤ reachBytes) = true := hsz0
  have hval : ∀ (j : Nat) t v, Try.f4.params[j]? = some t → args[j]? = some v → Value.okWide Try.prog W .any base t v := hval0
  have hW' := hW
  obtain ⟨p, q, hA0, hV, rfl, hfz, hnd⟩ := hW
  have hA : DataW.TrodAll enc Try.prog W 0 (fun _ => true) true Try.f4.params.toList args.toList ds p := hA0
  rw [Try.params4] at hA hval hsz
  obtain ⟨v0, vs0, d0, ds0, p0, q0, hargs, rfl, rfl, h0, r0⟩ := trodAll_cons hA
  obtain ⟨v1, vs1, d1, ds1, p1, q1, rfl, rfl, rfl, h1, r1⟩ := trodAll_cons r0
  obtain ⟨rfl, rfl, rfl⟩ := trodAll_nil r1
  obtain rfl : args = #[v0, v1] := by cases args; simp_all
  obtain ⟨rfl, rfl⟩ := trodVars_none hV
  have k0 := h0
  have lt0 : ∀ x ∈ p0, x.block < W.heap.size := by obtain ⟨m, hm⟩ := k0; exact DataW.trod_lt m _ _ _ hm
  obtain ⟨cs0, ⟨a0_0, a0_1, a0_2⟩, rfl, hK0, ⟨w0_0, w0_1, w0_2⟩⟩ := arg_struct Try.underlying36 (opens_three Try.underlying36 (by kernel_rfl) (opens_i64 Try.underlying3 (by kernel_rfl)) (opens_slice Try.underlying34 (by kernel_rfl) (show Opens Try.prog k151 151 (fun x : S151 => I64 x.f0 ∧ I64 x.f1 ∧ I64 x.f2) from opens_iso (opens_three Try.underlying151 (by kernel_rfl) (opens_i64 Try.underlying3 (by kernel_rfl)) (opens_i64 Try.underlying3 (by kernel_rfl)) (opens_i64 Try.underlying3 (by kernel_rfl)) rfl rfl rfl) (fun x : S151 => (x.f0, x.f1, x.f2)) (fun p => ⟨p.1, p.2.1, p.2.2⟩) (fun _ => rfl))) (opens_slice Try.underlying24 (by kernel_rfl) (opens_i64 Try.underlying3 (by kernel_rfl))) rfl rfl rfl) (hval 0 36 v0 rfl rfl) h0
  obtain ⟨_, _, he0, rfl, ⟨_, _, rfl, ⟨A0_1, c0_1, rfl, hc0_1, hr0_1⟩, ⟨A0_2, c0_2, rfl, hc0_2, hr0_2⟩⟩⟩ := hK0
  obtain rfl : cs0 = #[.int .i64 a0_0, .slice A0_1 a0_1.length c0_1, .slice A0_2 a0_2.length c0_2] := by cases cs0; simpa using he0
  have k1 := h1
  have lt1 : ∀ x ∈ p1, x.block < W.heap.size := by obtain ⟨m, hm⟩ := k1; exact DataW.trod_lt m _ _ _ hm
  obtain ⟨a1, rfl, rfl, rfl, wf1⟩ := open_int Try.underlying3 (hval 1 3 v1 rfl rfl) h1
  have w1 : I64 a1 := i64_of wf1
  clear hA0 hval0 hsz0 hsz
  obtain ⟨k, hk⟩ := Pure.FnExactLevelWires a0_0 a0_1 a0_2 a1 w0_0 w0_1 w0_2 w1
  refine (laws_FnExactLevelWires.calls k a0_0 _ _ a0_1 _ _ a0_2 a1 W hr0_1 hc0_1 hr0_2 hc0_2 hk).mono fun e W' ⟨he, bel0⟩ => ?_
  have bel : Below W.heap.size W W' := bel0
  subst he
  exact ⟨_, rfl, _, _, _, [], _, [], hW', trodAll_mk1 (shut_bool Try.underlying4 _), (trodAll_cons_mk (Below.trod laidOut (by kernel_rfl) (of_decide_eq_true (by kernel_rfl)) k0 bel lt0) (trodAll_cons_mk (shut_int Try.underlying3 wf1) trodAll_mk0)), rfl, bel.frame _, fun h => by cases h⟩
theorem over : Rows.fnExactLevelWiresRow.holds Try.pinned (OpenSpec.ofChange Rows.fnExactLevelWiresSpec) :=
  OpenClaim.holds_of_wide 4 Try.f4 rfl rfl rfl rfl rfl rfl rfl ⟨rfl, rfl, rfl, rfl, rfl⟩ rfl rfl rfl rfl rfl (by kernel_rfl) Try.func4 (by kernel_rfl)
    (of_decide_eq_true (by kernel_rfl)) (by unfold Func.isWrapper; first | (rw [if_pos (by decide +kernel)]; kernel_rfl) | (rw [if_neg (by decide +kernel)]; exact ⟨rfl, rfl⟩))
    (fun os started H enc _ => lifted os started H enc)
theorem proved : Rows.FnExactLevelWiresSaid := over
end Go.Proofs.Ytnldkpljchkkbaa.fnExactLevelWires
namespace Go.Proofs.Ytnldkpljchkkbaa
/-- The row, under a short name, for the claim. -/
theorem fnExactLevelWires_holds : Rows.FnExactLevelWiresSaid := fnExactLevelWires.proved
#print axioms fnExactLevelWires_holds
end Go.Proofs.Ytnldkpljchkkbaa
