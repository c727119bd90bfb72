/- The row of the law FnExactCombineDiagrams: for every input the call answers true and leaves its argument as it was. Conditions: none beyond the given statement's own. -/
import Derived.Test.YtlnhpkjioppbiaaRows
import Derived.Test.YtlnhpkjioppbiaaVCDOpen
import Derived.Test.YtlnhpkjioppbiaaSFnExactCombineDiagramsx17
import Derived.Test.YtlnhpkjioppbiaaPureFnExactCombineDiagrams
import Derived.WalkKit
import Derived.ProofKit
import Derived.OpenShut
import Derived.ShutString
import Derived.ChangeOld
import Derived.Below
import Derived.SizedLaws
namespace Go.Proofs.Ytlnhpkjioppbiaa.fnExactCombineDiagrams
open Go.ChangeShapes Go.WideShapes Go.ChangeAt Go.RowKit Go.Proofs.Ytlnhpkjioppbiaa.Open Go.Proofs.Ytlnhpkjioppbiaa.QFnExactCombineDiagrams Go.Proofs.YtlnhpkjioppbiaaW.PrintWords
open Go.ChangeMaps (open_string shut_string)
set_option linter.unusedVariables false
theorem own : ownKnob Try.prog.godebug = none := by kernel_rfl
theorem laidOut : laidOutB Try.prog = true := by kernel_rfl
set_option maxRecDepth 100000 in
theorem lifted (os : Os) (started : os.Started) (H : Type) (enc : TypeId × Value → H) :
    ReturnsInHanded {} Try.checked os 3 .any (Rows.fnExactCombineDiagramsSpec.pre6 enc Try.prog Try.f3 Rows.fnExactCombineDiagramsRow.domain false) (Rows.fnExactCombineDiagramsSpec.post enc Try.prog Try.f3 false true false false) := by
  refine returnsInHanded_of_change_sized (C := Try.checked) own started (by kernel_rfl) Try.func3
    (ChangeSpec.witness6 (enc := enc) (C := Try.checked) false ⟨#[], #[.int .i64 0, .agg #[.int .i64 0, .slice none 0 0, .int .i64 0], .agg #[.int .i64 0, .slice none 0 0, .int .i64 0]], []⟩ 8 (by kernel_rfl) (by kernel_rfl) (by kernel_rfl) (by kernel_rfl)) ?_
  intro W base args ds gs before hval0 hW hcnd hsz0 _
  have hsz : (DataW.weightsEach Try.prog (Try.f3.params.toList ++ Rows.fnExactCombineDiagramsSpec.plain.varTypes Try.prog) (ds ++ gs)).all (· ≤ reachBytes) = true := hsz0
  have hval : ∀ (j : Nat) t v, Try.f3.params[j]? = some t → args[j]? = some v → Value.okWide Try.prog W .any base t v := hval0
  have hW' := hW
  obtain ⟨p, q, hA0, hV, rfl, hfz, hnd⟩ := hW
  have hA : DataW.TrodAll enc Try.prog W 0 (fun _ => true) true Try.f3.params.toList args.toList ds p := hA0
  rw [Try.params3] at hA hval hsz
  obtain ⟨v0, vs0, d0, ds0, p0, q0, hargs, rfl, rfl, h0, r0⟩ := trodAll_cons hA
  obtain ⟨v1, vs1, d1, ds1, p1, q1, rfl, rfl, rfl, h1, r1⟩ := trodAll_cons r0
  obtain ⟨v2, vs2, d2, ds2, p2, q2, rfl, rfl, rfl, h2, r2⟩ := trodAll_cons r1
  obtain ⟨rfl, rfl, rfl⟩ := trodAll_nil r2
  obtain rfl : args = #[v0, v1, v2] := by cases args; simp_all
  obtain ⟨rfl, rfl⟩ := trodVars_none hV
  have k0 := h0
  have lt0 : ∀ x ∈ p0, x.block < W.heap.size := by obtain ⟨m, hm⟩ := k0; exact DataW.trod_lt m _ _ _ hm
  obtain ⟨a0, rfl, rfl, rfl, wf0⟩ := open_int Try.underlying3 (hval 0 3 v0 rfl rfl) h0
  have w0 : I64 a0 := i64_of wf0
  have k1 := h1
  have lt1 : ∀ x ∈ p1, x.block < W.heap.size := by obtain ⟨m, hm⟩ := k1; exact DataW.trod_lt m _ _ _ hm
  obtain ⟨cs1, ⟨a1_0, a1_1, a1_2⟩, rfl, hK1, ⟨w1_0, w1_1, w1_2⟩⟩ := arg_struct Try.underlying24 (opens_three Try.underlying24 (by kernel_rfl) (opens_i64 Try.underlying3 (by kernel_rfl)) (opens_slice Try.underlying22 (by kernel_rfl) (show Opens Try.prog k123 123 (fun x : S123 => I64 x.f0 ∧ I64 x.f1 ∧ I64 x.f2) from opens_iso (opens_three Try.underlying123 (by kernel_rfl) (opens_i64 Try.underlying3 (by kernel_rfl)) (opens_i64 Try.underlying3 (by kernel_rfl)) (opens_i64 Try.underlying3 (by kernel_rfl)) rfl rfl rfl) (fun x : S123 => (x.f0, x.f1, x.f2)) (fun p => ⟨p.1, p.2.1, p.2.2⟩) (fun _ => rfl))) (opens_i64 Try.underlying3 (by kernel_rfl)) rfl rfl rfl) (hval 1 24 v1 rfl rfl) h1
  obtain ⟨_, _, he1, rfl, ⟨_, _, rfl, ⟨A1_1, c1_1, rfl, hc1_1, hr1_1⟩, rfl⟩⟩ := hK1
  obtain rfl : cs1 = #[.int .i64 a1_0, .slice A1_1 a1_1.length c1_1, .int .i64 a1_2] := by cases cs1; simpa using he1
  have k2 := h2
  have lt2 : ∀ x ∈ p2, x.block < W.heap.size := by obtain ⟨m, hm⟩ := k2; exact DataW.trod_lt m _ _ _ hm
  obtain ⟨cs2, ⟨a2_0, a2_1, a2_2⟩, rfl, hK2, ⟨w2_0, w2_1, w2_2⟩⟩ := arg_struct Try.underlying24 (opens_three Try.underlying24 (by kernel_rfl) (opens_i64 Try.underlying3 (by kernel_rfl)) (opens_slice Try.underlying22 (by kernel_rfl) (show Opens Try.prog k123 123 (fun x : S123 => I64 x.f0 ∧ I64 x.f1 ∧ I64 x.f2) from opens_iso (opens_three Try.underlying123 (by kernel_rfl) (opens_i64 Try.underlying3 (by kernel_rfl)) (opens_i64 Try.underlying3 (by kernel_rfl)) (opens_i64 Try.underlying3 (by kernel_rfl)) rfl rfl rfl) (fun x : S123 => (x.f0, x.f1, x.f2)) (fun p => ⟨p.1, p.2.1, p.2.2⟩) (fun _ => rfl))) (opens_i64 Try.underlying3 (by kernel_rfl)) rfl rfl rfl) (hval 2 24 v2 rfl rfl) h2
  obtain ⟨_, _, he2, rfl, ⟨_, _, rfl, ⟨A2_1, c2_1, rfl, hc2_1, hr2_1⟩, rfl⟩⟩ := hK2
  obtain rfl : cs2 = #[.int .i64 a2_0, .slice A2_1 a2_1.length c2_1, .int .i64 a2_2] := by cases cs2; simpa using he2
  clear hA0 hval0 hsz0 hsz
  obtain ⟨k, hk⟩ := Pure.FnExactCombineDiagrams a0 a1_0 a1_1 a1_2 a2_0 a2_1 a2_2 w0 w1_0 w1_1 w1_2 w2_0 w2_1 w2_2
  refine (laws_FnExactCombineDiagrams.calls k a0 a1_0 _ _ a1_1 a1_2 a2_0 _ _ a2_1 a2_2 true W hr1_1 hc1_1 hr2_1 hc2_1 hk).mono fun e W' ⟨he, bel0⟩ => ?_
  have bel : Below W.heap.size W W' := bel0
  subst he
  exact ⟨_, rfl, _, _, _, [], _, [], hW', trodAll_mk1 (shut_bool Try.underlying4 _), (trodAll_cons_mk (shut_int Try.underlying3 wf0) (trodAll_cons_mk (Below.trod laidOut (by kernel_rfl) (of_decide_eq_true (by kernel_rfl)) k1 bel lt1) (trodAll_cons_mk (Below.trod laidOut (by kernel_rfl) (of_decide_eq_true (by kernel_rfl)) k2 bel lt2) trodAll_mk0))), rfl, bel.frame _, fun h => by cases h⟩
theorem over : Rows.fnExactCombineDiagramsRow.holds Try.pinned (OpenSpec.ofChange Rows.fnExactCombineDiagramsSpec) :=
  OpenClaim.holds_of_wide 3 Try.f3 rfl rfl rfl rfl rfl rfl rfl ⟨rfl, rfl, rfl, rfl, rfl⟩ rfl rfl rfl rfl rfl (by kernel_rfl) Try.func3 (by kernel_rfl)
    (of_decide_eq_true (by kernel_rfl)) (by unfold Func.isWrapper; first | (rw [if_pos (by decide +kernel)]; kernel_rfl) | (rw [if_neg (by decide +kernel)]; exact ⟨rfl, rfl⟩))
    (fun os started H enc _ => lifted os started H enc)
theorem proved : Rows.FnExactCombineDiagramsSaid := over
end Go.Proofs.Ytlnhpkjioppbiaa.fnExactCombineDiagrams
namespace Go.Proofs.Ytlnhpkjioppbiaa
/-- The row, under a short name, for the claim. -/
theorem fnExactCombineDiagrams_holds : Rows.FnExactCombineDiagramsSaid := fnExactCombineDiagrams.proved
#print axioms fnExactCombineDiagrams_holds
end Go.Proofs.Ytlnhpkjioppbiaa
