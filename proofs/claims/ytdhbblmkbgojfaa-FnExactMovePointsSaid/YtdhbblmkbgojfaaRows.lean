/-
  No cell of these rows narrows 'for every input' (looked for: loops, veiled, ifaces, maps, wideKeys, modest, calm, conditions, laid).
  DERIVED. THE GIVEN ROWS OF THIS SEAT. 5 by the template 'for every input the law returns true; each argument reads behind the call as it read before'; 0 by the template 'total and deterministic' (their statements: YtdhbblmkbgojfaaTotals.lean).
  GIVEN WITH THE SEED: the statements are not yours to turn. If you find one false, say at which input.
  Laid BY PROGRAM, IN A SANDBOX (cutbox-rows.mjs): the forced cells as the released guide's own fill.sh prints them over the translation ad0499d5d2e134a2… (all of the seat's roots in one cut). By AI agents, Wed Nov 11 2026. No macro, syntax, notation, axiom, sorry.
-/
import Derived.Test.YtdhbblmkbgojfaaChecked
import GoSem.Claim
import GoSem.ClaimJoined
import GoSem.ClaimMapViews
import Derived.JoinedTies
import Derived.KernelRfl
namespace Go.Proofs.Ytdhbblmkbgojfaa
/- THE CELL 'sum', in the pinned program and in every row, IS THE sha256 OF THE DUMP (.gsa) THAT YtdhbblmkbgojfaaProg.lean LOADS. Nothing in Lean hashes anything: it is a label: what it is worth is what the hold of that sum in a sandbox is worth. -/
noncomputable def Try.pinned : Pinned := { name := "ytdhbblmkbgojfaa", sum := "ad0499d5d2e134a26cd437b47cfb6591fea03f679a25397b2bfc670eb0d4f702", checked := Try.checked }
namespace Rows
def none {H : Type} : Left H := { results := [], args := [] }

/-- 'laws.FnExactIsRouting': WHATEVER THE INPUT: true; the input reads as it did. -/
def fnExactIsRoutingSpec : ChangeSpec := { name := "fnExactIsRouting", fn := fun _ => fun
  | [d1, d2] => { results := [.lit (.bool true)], args := [d1, d2] }
  | _ => none }
def fnExactIsRoutingRow : OpenClaim := { program := "ytdhbblmkbgojfaa", sum := "ad0499d5d2e134a26cd437b47cfb6591fea03f679a25397b2bfc670eb0d4f702", func := "loop.example/g00942/laws.FnExactIsRouting", spec := "fnExactIsRouting", apart := false }
def FnExactIsRoutingSaid : Prop := fnExactIsRoutingRow.holds Try.pinned (OpenSpec.ofChange fnExactIsRoutingSpec)

/-- ITS FALSE NEIGHBOUR: 'it returns false'. Refute it at one input. -/
def fnExactIsRoutingWrong : ChangeSpec := { name := "fnExactIsRouting", fn := fun _ => fun
  | [d1, d2] => { results := [.lit (.bool false)], args := [d1, d2] }
  | _ => none }
def FnExactIsRoutingWrongFalsely : Prop := fnExactIsRoutingRow.holds Try.pinned (OpenSpec.ofChange fnExactIsRoutingWrong)

/-- 'laws.FnExactSumTable': WHATEVER THE INPUT: true; the input reads as it did. -/
def fnExactSumTableSpec : ChangeSpec := { name := "fnExactSumTable", fn := fun _ => fun
  | [d1, d2] => { results := [.lit (.bool true)], args := [d1, d2] }
  | _ => none }
def fnExactSumTableRow : OpenClaim := { program := "ytdhbblmkbgojfaa", sum := "ad0499d5d2e134a26cd437b47cfb6591fea03f679a25397b2bfc670eb0d4f702", func := "loop.example/g00942/laws.FnExactSumTable", spec := "fnExactSumTable", apart := false }
def FnExactSumTableSaid : Prop := fnExactSumTableRow.holds Try.pinned (OpenSpec.ofChange fnExactSumTableSpec)

/-- ITS FALSE NEIGHBOUR: 'it returns false'. Refute it at one input. -/
def fnExactSumTableWrong : ChangeSpec := { name := "fnExactSumTable", fn := fun _ => fun
  | [d1, d2] => { results := [.lit (.bool false)], args := [d1, d2] }
  | _ => none }
def FnExactSumTableWrongFalsely : Prop := fnExactSumTableRow.holds Try.pinned (OpenSpec.ofChange fnExactSumTableWrong)

/-- 'laws.FnExactCrossingTable': WHATEVER THE INPUT: true; the input reads as it did. -/
def fnExactCrossingTableSpec : ChangeSpec := { name := "fnExactCrossingTable", fn := fun _ => fun
  | [d1, d2] => { results := [.lit (.bool true)], args := [d1, d2] }
  | _ => none }
def fnExactCrossingTableRow : OpenClaim := { program := "ytdhbblmkbgojfaa", sum := "ad0499d5d2e134a26cd437b47cfb6591fea03f679a25397b2bfc670eb0d4f702", func := "loop.example/g00942/laws.FnExactCrossingTable", spec := "fnExactCrossingTable", apart := false }
def FnExactCrossingTableSaid : Prop := fnExactCrossingTableRow.holds Try.pinned (OpenSpec.ofChange fnExactCrossingTableSpec)

/-- ITS FALSE NEIGHBOUR: 'it returns false'. Refute it at one input. -/
def fnExactCrossingTableWrong : ChangeSpec := { name := "fnExactCrossingTable", fn := fun _ => fun
  | [d1, d2] => { results := [.lit (.bool false)], args := [d1, d2] }
  | _ => none }
def FnExactCrossingTableWrongFalsely : Prop := fnExactCrossingTableRow.holds Try.pinned (OpenSpec.ofChange fnExactCrossingTableWrong)

/-- 'laws.FnExactMeetingPairs': WHATEVER THE INPUT: true; the input reads as it did. -/
def fnExactMeetingPairsSpec : ChangeSpec := { name := "fnExactMeetingPairs", fn := fun _ => fun
  | [d] => { results := [.lit (.bool true)], args := [d] }
  | _ => none }
def fnExactMeetingPairsRow : OpenClaim := { program := "ytdhbblmkbgojfaa", sum := "ad0499d5d2e134a26cd437b47cfb6591fea03f679a25397b2bfc670eb0d4f702", func := "loop.example/g00942/laws.FnExactMeetingPairs", spec := "fnExactMeetingPairs", apart := false }
def FnExactMeetingPairsSaid : Prop := fnExactMeetingPairsRow.holds Try.pinned (OpenSpec.ofChange fnExactMeetingPairsSpec)

/-- ITS FALSE NEIGHBOUR: 'it returns false'. Refute it at one input. -/
def fnExactMeetingPairsWrong : ChangeSpec := { name := "fnExactMeetingPairs", fn := fun _ => fun
  | [d] => { results := [.lit (.bool false)], args := [d] }
  | _ => none }
def FnExactMeetingPairsWrongFalsely : Prop := fnExactMeetingPairsRow.holds Try.pinned (OpenSpec.ofChange fnExactMeetingPairsWrong)

/-- 'laws.FnExactMovePoints': WHATEVER THE INPUT: true; the input reads as it did. -/
def fnExactMovePointsSpec : ChangeSpec := { name := "fnExactMovePoints", fn := fun _ => fun
  | [d1, d2, d3] => { results := [.lit (.bool true)], args := [d1, d2, d3] }
  | _ => none }
def fnExactMovePointsRow : OpenClaim := { program := "ytdhbblmkbgojfaa", sum := "ad0499d5d2e134a26cd437b47cfb6591fea03f679a25397b2bfc670eb0d4f702", func := "loop.example/g00942/laws.FnExactMovePoints", spec := "fnExactMovePoints", apart := false }
def FnExactMovePointsSaid : Prop := fnExactMovePointsRow.holds Try.pinned (OpenSpec.ofChange fnExactMovePointsSpec)

/-- ITS FALSE NEIGHBOUR: 'it returns false'. Refute it at one input. -/
def fnExactMovePointsWrong : ChangeSpec := { name := "fnExactMovePoints", fn := fun _ => fun
  | [d1, d2, d3] => { results := [.lit (.bool false)], args := [d1, d2, d3] }
  | _ => none }
def FnExactMovePointsWrongFalsely : Prop := fnExactMovePointsRow.holds Try.pinned (OpenSpec.ofChange fnExactMovePointsWrong)

/- THE SECOND FORM. 'bulk': how many values and letters a reading holds, each counted each time it is reached (what is shared counts as often as it is met; a slice's spare places count too). A statement '..UptoSaid' is the law's where the arguments, and the package variables that the reading takes, are together of bulk at most 1048576: NARROWER than '..Said'. Prove '..Said' where nothing that the law and all that it calls make is longer than what came in: it says more and counts as full. Else prove '..UptoSaid'. A law counts once. -/
mutual
def uptoBulk {H : Type} : DataW H → Nat
  | .lit (.string bytes) => bytes.length + 1
  | .lit _ => 1
  | .nil => 1
  | .ptr d => uptoBulk d + 1
  | .slice elems spare => uptoBulkAll elems + uptoBulkAll spare + 1
  | .agg parts => uptoBulkAll parts + 1
  | .iface _ d => uptoBulk d + 1
  | .map entries => uptoBulkEntries entries + 1
  | .held _ => 1
def uptoBulkAll {H : Type} : List (DataW H) → Nat
  | [] => 0
  | d :: r => uptoBulk d + uptoBulkAll r
def uptoBulkEntries {H : Type} : List (Lit × DataW H) → Nat
  | [] => 0
  | x :: r => uptoBulkEntry x + uptoBulkEntries r
def uptoBulkEntry {H : Type} : Lit × DataW H → Nat
  | (.string bytes, d) => bytes.length + uptoBulk d + 1
  | (_, d) => uptoBulk d + 1
 end
def uptoSmall : (H : Type) → List (DataW H) → Bool := fun _ ds => decide (uptoBulkAll ds ≤ 1048576)
def OpenSpec.upto (s : _root_.Go.ChangeSpec) : _root_.Go.OpenSpec := { _root_.Go.OpenSpec.ofChange s with cond := some uptoSmall }

/-- 'laws.FnExactIsRouting', WHERE WHAT IT READS IS OF BULK AT MOST 1048576: true; the input reads as it did. -/
def fnExactIsRoutingUptoRow : OpenClaim := { program := "ytdhbblmkbgojfaa", sum := "ad0499d5d2e134a26cd437b47cfb6591fea03f679a25397b2bfc670eb0d4f702", func := "loop.example/g00942/laws.FnExactIsRouting", spec := "fnExactIsRouting", apart := false, narrowed := true }
def FnExactIsRoutingUptoSaid : Prop := fnExactIsRoutingUptoRow.holds Try.pinned (OpenSpec.upto fnExactIsRoutingSpec)

/-- 'laws.FnExactSumTable', WHERE WHAT IT READS IS OF BULK AT MOST 1048576: true; the input reads as it did. -/
def fnExactSumTableUptoRow : OpenClaim := { program := "ytdhbblmkbgojfaa", sum := "ad0499d5d2e134a26cd437b47cfb6591fea03f679a25397b2bfc670eb0d4f702", func := "loop.example/g00942/laws.FnExactSumTable", spec := "fnExactSumTable", apart := false, narrowed := true }
def FnExactSumTableUptoSaid : Prop := fnExactSumTableUptoRow.holds Try.pinned (OpenSpec.upto fnExactSumTableSpec)

/-- 'laws.FnExactCrossingTable', WHERE WHAT IT READS IS OF BULK AT MOST 1048576: true; the input reads as it did. -/
def fnExactCrossingTableUptoRow : OpenClaim := { program := "ytdhbblmkbgojfaa", sum := "ad0499d5d2e134a26cd437b47cfb6591fea03f679a25397b2bfc670eb0d4f702", func := "loop.example/g00942/laws.FnExactCrossingTable", spec := "fnExactCrossingTable", apart := false, narrowed := true }
def FnExactCrossingTableUptoSaid : Prop := fnExactCrossingTableUptoRow.holds Try.pinned (OpenSpec.upto fnExactCrossingTableSpec)

/-- 'laws.FnExactMeetingPairs', WHERE WHAT IT READS IS OF BULK AT MOST 1048576: true; the input reads as it did. -/
def fnExactMeetingPairsUptoRow : OpenClaim := { program := "ytdhbblmkbgojfaa", sum := "ad0499d5d2e134a26cd437b47cfb6591fea03f679a25397b2bfc670eb0d4f702", func := "loop.example/g00942/laws.FnExactMeetingPairs", spec := "fnExactMeetingPairs", apart := false, narrowed := true }
def FnExactMeetingPairsUptoSaid : Prop := fnExactMeetingPairsUptoRow.holds Try.pinned (OpenSpec.upto fnExactMeetingPairsSpec)

/-- 'laws.FnExactMovePoints', WHERE WHAT IT READS IS OF BULK AT MOST 1048576: true; the input reads as it did. -/
def fnExactMovePointsUptoRow : OpenClaim := { program := "ytdhbblmkbgojfaa", sum := "ad0499d5d2e134a26cd437b47cfb6591fea03f679a25397b2bfc670eb0d4f702", func := "loop.example/g00942/laws.FnExactMovePoints", spec := "fnExactMovePoints", apart := false, narrowed := true }
def FnExactMovePointsUptoSaid : Prop := fnExactMovePointsUptoRow.holds Try.pinned (OpenSpec.upto fnExactMovePointsSpec)

end Rows
end Go.Proofs.Ytdhbblmkbgojfaa
