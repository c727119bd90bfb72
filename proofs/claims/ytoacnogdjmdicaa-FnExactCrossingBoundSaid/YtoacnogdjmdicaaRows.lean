/-
  No cell of these rows narrows 'for every input' (looked for: loops, veiled, ifaces, maps, wideKeys, modest, calm, conditions, laid).
  DERIVED. THE GIVEN ROWS OF THIS SEAT. 6 by the template 'for every input the law returns true; each argument reads behind the call as it read before'; 0 by the template 'total and deterministic' (their statements: YtoacnogdjmdicaaTotals.lean).
  GIVEN WITH THE SEED: the statements are not yours to turn. If you find one false, say at which input.
  Laid BY PROGRAM, IN A SANDBOX (cutbox-rows.mjs): the forced cells as the released guide's own fill.sh prints them over the translation aca210637e86f300… (all of the seat's roots in one cut). By AI agents, Wed Nov 11 2026. No macro, syntax, notation, axiom, sorry.
-/
import Derived.Test.YtoacnogdjmdicaaChecked
import GoSem.Claim
import GoSem.ClaimJoined
import GoSem.ClaimMapViews
import Derived.JoinedTies
import Derived.KernelRfl
namespace Go.Proofs.Ytoacnogdjmdicaa
/- THE CELL 'sum', in the pinned program and in every row, IS THE sha256 OF THE DUMP (.gsa) THAT YtoacnogdjmdicaaProg.lean LOADS. Nothing in Lean hashes anything: it is a label: what it is worth is what the hold of that sum in a sandbox is worth. -/
noncomputable def Try.pinned : Pinned := { name := "ytoacnogdjmdicaa", sum := "aca210637e86f300f0f88f5d10ab90bceee299981693fc9beb5eabb382c300f8", checked := Try.checked }
namespace Rows
def none {H : Type} : Left H := { results := [], args := [] }

/-- 'laws.FnExactIsImplicant': WHATEVER THE INPUT: true; the input reads as it did. -/
def fnExactIsImplicantSpec : ChangeSpec := { name := "fnExactIsImplicant", fn := fun _ => fun
  | [d1, d2] => { results := [.lit (.bool true)], args := [d1, d2] }
  | _ => none }
def fnExactIsImplicantRow : OpenClaim := { program := "ytoacnogdjmdicaa", sum := "aca210637e86f300f0f88f5d10ab90bceee299981693fc9beb5eabb382c300f8", func := "loop.example/g00942/laws.FnExactIsImplicant", spec := "fnExactIsImplicant", apart := false }
def FnExactIsImplicantSaid : Prop := fnExactIsImplicantRow.holds Try.pinned (OpenSpec.ofChange fnExactIsImplicantSpec)

/-- ITS FALSE NEIGHBOUR: 'it returns false'. Refute it at one input. -/
def fnExactIsImplicantWrong : ChangeSpec := { name := "fnExactIsImplicant", fn := fun _ => fun
  | [d1, d2] => { results := [.lit (.bool false)], args := [d1, d2] }
  | _ => none }
def FnExactIsImplicantWrongFalsely : Prop := fnExactIsImplicantRow.holds Try.pinned (OpenSpec.ofChange fnExactIsImplicantWrong)

/-- 'laws.FnExactIsAutomaton': WHATEVER THE INPUT: true; the input reads as it did. -/
def fnExactIsAutomatonSpec : ChangeSpec := { name := "fnExactIsAutomaton", fn := fun _ => fun
  | [d] => { results := [.lit (.bool true)], args := [d] }
  | _ => none }
def fnExactIsAutomatonRow : OpenClaim := { program := "ytoacnogdjmdicaa", sum := "aca210637e86f300f0f88f5d10ab90bceee299981693fc9beb5eabb382c300f8", func := "loop.example/g00942/laws.FnExactIsAutomaton", spec := "fnExactIsAutomaton", apart := false }
def FnExactIsAutomatonSaid : Prop := fnExactIsAutomatonRow.holds Try.pinned (OpenSpec.ofChange fnExactIsAutomatonSpec)

/-- ITS FALSE NEIGHBOUR: 'it returns false'. Refute it at one input. -/
def fnExactIsAutomatonWrong : ChangeSpec := { name := "fnExactIsAutomaton", fn := fun _ => fun
  | [d] => { results := [.lit (.bool false)], args := [d] }
  | _ => none }
def FnExactIsAutomatonWrongFalsely : Prop := fnExactIsAutomatonRow.holds Try.pinned (OpenSpec.ofChange fnExactIsAutomatonWrong)

/-- 'laws.FnLevels': WHATEVER THE INPUT: true; the input reads as it did. -/
def fnLevelsSpec : ChangeSpec := { name := "fnLevels", fn := fun _ => fun
  | [d1, d2] => { results := [.lit (.bool true)], args := [d1, d2] }
  | _ => none }
def fnLevelsRow : OpenClaim := { program := "ytoacnogdjmdicaa", sum := "aca210637e86f300f0f88f5d10ab90bceee299981693fc9beb5eabb382c300f8", func := "loop.example/g00942/laws.FnLevels", spec := "fnLevels", unfollowed := true, recurses := true, apart := false }
def FnLevelsSaid : Prop := fnLevelsRow.holds Try.pinned (OpenSpec.ofChange fnLevelsSpec)

/-- ITS FALSE NEIGHBOUR: 'it returns false'. Refute it at one input. -/
def fnLevelsWrong : ChangeSpec := { name := "fnLevels", fn := fun _ => fun
  | [d1, d2] => { results := [.lit (.bool false)], args := [d1, d2] }
  | _ => none }
def FnLevelsWrongFalsely : Prop := fnLevelsRow.holds Try.pinned (OpenSpec.ofChange fnLevelsWrong)

/-- 'laws.FnExactIsCircuit': WHATEVER THE INPUT: true; the input reads as it did. -/
def fnExactIsCircuitSpec : ChangeSpec := { name := "fnExactIsCircuit", fn := fun _ => fun
  | [d] => { results := [.lit (.bool true)], args := [d] }
  | _ => none }
def fnExactIsCircuitRow : OpenClaim := { program := "ytoacnogdjmdicaa", sum := "aca210637e86f300f0f88f5d10ab90bceee299981693fc9beb5eabb382c300f8", func := "loop.example/g00942/laws.FnExactIsCircuit", spec := "fnExactIsCircuit", apart := false }
def FnExactIsCircuitSaid : Prop := fnExactIsCircuitRow.holds Try.pinned (OpenSpec.ofChange fnExactIsCircuitSpec)

/-- ITS FALSE NEIGHBOUR: 'it returns false'. Refute it at one input. -/
def fnExactIsCircuitWrong : ChangeSpec := { name := "fnExactIsCircuit", fn := fun _ => fun
  | [d] => { results := [.lit (.bool false)], args := [d] }
  | _ => none }
def FnExactIsCircuitWrongFalsely : Prop := fnExactIsCircuitRow.holds Try.pinned (OpenSpec.ofChange fnExactIsCircuitWrong)

/-- 'laws.FnExactCrossingBound': WHATEVER THE INPUT: true; the input reads as it did. -/
def fnExactCrossingBoundSpec : ChangeSpec := { name := "fnExactCrossingBound", fn := fun _ => fun
  | [d1, d2] => { results := [.lit (.bool true)], args := [d1, d2] }
  | _ => none }
def fnExactCrossingBoundRow : OpenClaim := { program := "ytoacnogdjmdicaa", sum := "aca210637e86f300f0f88f5d10ab90bceee299981693fc9beb5eabb382c300f8", func := "loop.example/g00942/laws.FnExactCrossingBound", spec := "fnExactCrossingBound", apart := false }
def FnExactCrossingBoundSaid : Prop := fnExactCrossingBoundRow.holds Try.pinned (OpenSpec.ofChange fnExactCrossingBoundSpec)

/-- ITS FALSE NEIGHBOUR: 'it returns false'. Refute it at one input. -/
def fnExactCrossingBoundWrong : ChangeSpec := { name := "fnExactCrossingBound", fn := fun _ => fun
  | [d1, d2] => { results := [.lit (.bool false)], args := [d1, d2] }
  | _ => none }
def FnExactCrossingBoundWrongFalsely : Prop := fnExactCrossingBoundRow.holds Try.pinned (OpenSpec.ofChange fnExactCrossingBoundWrong)

/-- 'laws.FnExactMostInTrack': WHATEVER THE INPUT: true; the input reads as it did. -/
def fnExactMostInTrackSpec : ChangeSpec := { name := "fnExactMostInTrack", fn := fun _ => fun
  | [d] => { results := [.lit (.bool true)], args := [d] }
  | _ => none }
def fnExactMostInTrackRow : OpenClaim := { program := "ytoacnogdjmdicaa", sum := "aca210637e86f300f0f88f5d10ab90bceee299981693fc9beb5eabb382c300f8", func := "loop.example/g00942/laws.FnExactMostInTrack", spec := "fnExactMostInTrack", apart := false }
def FnExactMostInTrackSaid : Prop := fnExactMostInTrackRow.holds Try.pinned (OpenSpec.ofChange fnExactMostInTrackSpec)

/-- ITS FALSE NEIGHBOUR: 'it returns false'. Refute it at one input. -/
def fnExactMostInTrackWrong : ChangeSpec := { name := "fnExactMostInTrack", fn := fun _ => fun
  | [d] => { results := [.lit (.bool false)], args := [d] }
  | _ => none }
def FnExactMostInTrackWrongFalsely : Prop := fnExactMostInTrackRow.holds Try.pinned (OpenSpec.ofChange fnExactMostInTrackWrong)

/- THE SECOND FORM. 'bulk': how many values and letters a reading holds, each counted each time it is reached (what is shared counts as often as it is met; a slice's spare places count too). A statement '..UptoSaid' is the law's where the arguments, and the package variables that the reading takes, are together of bulk at most 1048576: NARROWER than '..Said'. Prove '..Said' where nothing that the law and all that it calls make is longer than what came in: it says more and counts as full. Else prove '..UptoSaid'. A law counts once. -/
mutual
def uptoBulk {H : Type} : DataW H → Nat
  | .lit (.string bytes) => bytes.length + 1
  | .lit _ => 1
  | .nil => 1
  | .ptr d => uptoBulk d + 1
  | .slice elems spare => uptoBulkAll elems + uptoBulkAll spare + 1
  | .agg parts => uptoBulkAll parts + 1
  | .iface _ d => uptoBulk d + 1
  | .map entries => uptoBulkEntries entries + 1
  | .held _ => 1
def uptoBulkAll {H : Type} : List (DataW H) → Nat
  | [] => 0
  | d :: r => uptoBulk d + uptoBulkAll r
def uptoBulkEntries {H : Type} : List (Lit × DataW H) → Nat
  | [] => 0
  | x :: r => uptoBulkEntry x + uptoBulkEntries r
def uptoBulkEntry {H : Type} : Lit × DataW H → Nat
  | (.string bytes, d) => bytes.length + uptoBulk d + 1
  | (_, d) => uptoBulk d + 1
 end
def uptoSmall : (H : Type) → List (DataW H) → Bool := fun _ ds => decide (uptoBulkAll ds ≤ 1048576)
def OpenSpec.upto (s : _root_.Go.ChangeSpec) : _root_.Go.OpenSpec := { _root_.Go.OpenSpec.ofChange s with cond := some uptoSmall }

/-- 'laws.FnExactIsImplicant', WHERE WHAT IT READS IS OF BULK AT MOST 1048576: true; the input reads as it did. -/
def fnExactIsImplicantUptoRow : OpenClaim := { program := "ytoacnogdjmdicaa", sum := "aca210637e86f300f0f88f5d10ab90bceee299981693fc9beb5eabb382c300f8", func := "loop.example/g00942/laws.FnExactIsImplicant", spec := "fnExactIsImplicant", apart := false, narrowed := true }
def FnExactIsImplicantUptoSaid : Prop := fnExactIsImplicantUptoRow.holds Try.pinned (OpenSpec.upto fnExactIsImplicantSpec)

/-- 'laws.FnExactIsAutomaton', WHERE WHAT IT READS IS OF BULK AT MOST 1048576: true; the input reads as it did. -/
def fnExactIsAutomatonUptoRow : OpenClaim := { program := "ytoacnogdjmdicaa", sum := "aca210637e86f300f0f88f5d10ab90bceee299981693fc9beb5eabb382c300f8", func := "loop.example/g00942/laws.FnExactIsAutomaton", spec := "fnExactIsAutomaton", apart := false, narrowed := true }
def FnExactIsAutomatonUptoSaid : Prop := fnExactIsAutomatonUptoRow.holds Try.pinned (OpenSpec.upto fnExactIsAutomatonSpec)

/-- 'laws.FnLevels', WHERE WHAT IT READS IS OF BULK AT MOST 1048576: true; the input reads as it did. -/
def fnLevelsUptoRow : OpenClaim := { program := "ytoacnogdjmdicaa", sum := "aca210637e86f300f0f88f5d10ab90bceee299981693fc9beb5eabb382c300f8", func := "loop.example/g00942/laws.FnLevels", spec := "fnLevels", unfollowed := true, recurses := true, apart := false, narrowed := true }
def FnLevelsUptoSaid : Prop := fnLevelsUptoRow.holds Try.pinned (OpenSpec.upto fnLevelsSpec)

/-- 'laws.FnExactIsCircuit', WHERE WHAT IT READS IS OF BULK AT MOST 1048576: true; the input reads as it did. -/
def fnExactIsCircuitUptoRow : OpenClaim := { program := "ytoacnogdjmdicaa", sum := "aca210637e86f300f0f88f5d10ab90bceee299981693fc9beb5eabb382c300f8", func := "loop.example/g00942/laws.FnExactIsCircuit", spec := "fnExactIsCircuit", apart := false, narrowed := true }
def FnExactIsCircuitUptoSaid : Prop := fnExactIsCircuitUptoRow.holds Try.pinned (OpenSpec.upto fnExactIsCircuitSpec)

/-- 'laws.FnExactCrossingBound', WHERE WHAT IT READS IS OF BULK AT MOST 1048576: true; the input reads as it did. -/
def fnExactCrossingBoundUptoRow : OpenClaim := { program := "ytoacnogdjmdicaa", sum := "aca210637e86f300f0f88f5d10ab90bceee299981693fc9beb5eabb382c300f8", func := "loop.example/g00942/laws.FnExactCrossingBound", spec := "fnExactCrossingBound", apart := false, narrowed := true }
def FnExactCrossingBoundUptoSaid : Prop := fnExactCrossingBoundUptoRow.holds Try.pinned (OpenSpec.upto fnExactCrossingBoundSpec)

/-- 'laws.FnExactMostInTrack', WHERE WHAT IT READS IS OF BULK AT MOST 1048576: true; the input reads as it did. -/
def fnExactMostInTrackUptoRow : OpenClaim := { program := "ytoacnogdjmdicaa", sum := "aca210637e86f300f0f88f5d10ab90bceee299981693fc9beb5eabb382c300f8", func := "loop.example/g00942/laws.FnExactMostInTrack", spec := "fnExactMostInTrack", apart := false, narrowed := true }
def FnExactMostInTrackUptoSaid : Prop := fnExactMostInTrackUptoRow.holds Try.pinned (OpenSpec.upto fnExactMostInTrackSpec)

end Rows
end Go.Proofs.Ytoacnogdjmdicaa
