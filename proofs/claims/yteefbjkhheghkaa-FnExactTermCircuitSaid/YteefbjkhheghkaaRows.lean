/-
  No cell of these rows narrows 'for every input' (looked for: loops, veiled, ifaces, maps, wideKeys, modest, calm, conditions, laid).
  DERIVED. THE GIVEN ROWS OF THIS SEAT. 4 by the template 'for every input the law returns true; each argument reads behind the call as it read before'; 0 by the template 'total and deterministic' (their statements: YteefbjkhheghkaaTotals.lean).
  GIVEN WITH THE SEED: the statements are not yours to turn. If you find one false, say at which input.
  Laid BY PROGRAM, IN A SANDBOX (cutbox-rows.mjs): the forced cells as the released guide's own fill.sh prints them over the translation 66bedd8db6cd6175… (all of the seat's roots in one cut). By AI agents, Wed Nov 11 2026. No macro, syntax, notation, axiom, sorry.
-/
import Derived.Test.YteefbjkhheghkaaChecked
import GoSem.Claim
import GoSem.ClaimJoined
import GoSem.ClaimMapViews
import Derived.JoinedTies
import Derived.KernelRfl
namespace Go.Proofs.Yteefbjkhheghkaa
/- THE CELL 'sum', in the pinned program and in every row, IS THE sha256 OF THE DUMP (.gsa) THAT YteefbjkhheghkaaProg.lean LOADS. Nothing in Lean hashes anything: it is a label: what it is worth is what the hold of that sum in a sandbox is worth. -/
noncomputable def Try.pinned : Pinned := { name := "yteefbjkhheghkaa", sum := "66bedd8db6cd61750ad434fae12ba084258d69a30eae0ee70a23d3a0161d4eb4", checked := Try.checked }
namespace Rows
def none {H : Type} : Left H := { results := [], args := [] }

/-- 'laws.FnExactFewestCrossings': WHATEVER THE INPUT: true; the input reads as it did. -/
def fnExactFewestCrossingsSpec : ChangeSpec := { name := "fnExactFewestCrossings", fn := fun _ => fun
  | [d1, d2] => { results := [.lit (.bool true)], args := [d1, d2] }
  | _ => none }
def fnExactFewestCrossingsRow : OpenClaim := { program := "yteefbjkhheghkaa", sum := "66bedd8db6cd61750ad434fae12ba084258d69a30eae0ee70a23d3a0161d4eb4", func := "loop.example/g00942/laws.FnExactFewestCrossings", spec := "fnExactFewestCrossings", unfollowed := true, recurses := true, apart := false }
def FnExactFewestCrossingsSaid : Prop := fnExactFewestCrossingsRow.holds Try.pinned (OpenSpec.ofChange fnExactFewestCrossingsSpec)

/-- ITS FALSE NEIGHBOUR: 'it returns false'. Refute it at one input. -/
def fnExactFewestCrossingsWrong : ChangeSpec := { name := "fnExactFewestCrossings", fn := fun _ => fun
  | [d1, d2] => { results := [.lit (.bool false)], args := [d1, d2] }
  | _ => none }
def FnExactFewestCrossingsWrongFalsely : Prop := fnExactFewestCrossingsRow.holds Try.pinned (OpenSpec.ofChange fnExactFewestCrossingsWrong)

/-- 'laws.FnExactMiddleOrder': WHATEVER THE INPUT: true; the input reads as it did. -/
def fnExactMiddleOrderSpec : ChangeSpec := { name := "fnExactMiddleOrder", fn := fun _ => fun
  | [d1, d2] => { results := [.lit (.bool true)], args := [d1, d2] }
  | _ => none }
def fnExactMiddleOrderRow : OpenClaim := { program := "yteefbjkhheghkaa", sum := "66bedd8db6cd61750ad434fae12ba084258d69a30eae0ee70a23d3a0161d4eb4", func := "loop.example/g00942/laws.FnExactMiddleOrder", spec := "fnExactMiddleOrder", unfollowed := true, recurses := true, apart := false }
def FnExactMiddleOrderSaid : Prop := fnExactMiddleOrderRow.holds Try.pinned (OpenSpec.ofChange fnExactMiddleOrderSpec)

/-- ITS FALSE NEIGHBOUR: 'it returns false'. Refute it at one input. -/
def fnExactMiddleOrderWrong : ChangeSpec := { name := "fnExactMiddleOrder", fn := fun _ => fun
  | [d1, d2] => { results := [.lit (.bool false)], args := [d1, d2] }
  | _ => none }
def FnExactMiddleOrderWrongFalsely : Prop := fnExactMiddleOrderRow.holds Try.pinned (OpenSpec.ofChange fnExactMiddleOrderWrong)

/-- 'laws.FnExactLeftEdge': WHATEVER THE INPUT: true; the input reads as it did. -/
def fnExactLeftEdgeSpec : ChangeSpec := { name := "fnExactLeftEdge", fn := fun _ => fun
  | [d] => { results := [.lit (.bool true)], args := [d] }
  | _ => none }
def fnExactLeftEdgeRow : OpenClaim := { program := "yteefbjkhheghkaa", sum := "66bedd8db6cd61750ad434fae12ba084258d69a30eae0ee70a23d3a0161d4eb4", func := "loop.example/g00942/laws.FnExactLeftEdge", spec := "fnExactLeftEdge", unfollowed := true, recurses := true, apart := false }
def FnExactLeftEdgeSaid : Prop := fnExactLeftEdgeRow.holds Try.pinned (OpenSpec.ofChange fnExactLeftEdgeSpec)

/-- ITS FALSE NEIGHBOUR: 'it returns false'. Refute it at one input. -/
def fnExactLeftEdgeWrong : ChangeSpec := { name := "fnExactLeftEdge", fn := fun _ => fun
  | [d] => { results := [.lit (.bool false)], args := [d] }
  | _ => none }
def FnExactLeftEdgeWrongFalsely : Prop := fnExactLeftEdgeRow.holds Try.pinned (OpenSpec.ofChange fnExactLeftEdgeWrong)

/-- 'laws.FnExactTermCircuit': WHATEVER THE INPUT: true; the input reads as it did. -/
def fnExactTermCircuitSpec : ChangeSpec := { name := "fnExactTermCircuit", fn := fun _ => fun
  | [d] => { results := [.lit (.bool true)], args := [d] }
  | _ => none }
def fnExactTermCircuitRow : OpenClaim := { program := "yteefbjkhheghkaa", sum := "66bedd8db6cd61750ad434fae12ba084258d69a30eae0ee70a23d3a0161d4eb4", func := "loop.example/g00942/laws.FnExactTermCircuit", spec := "fnExactTermCircuit", unfollowed := true, recurses := true, apart := false }
def FnExactTermCircuitSaid : Prop := fnExactTermCircuitRow.holds Try.pinned (OpenSpec.ofChange fnExactTermCircuitSpec)

/-- ITS FALSE NEIGHBOUR: 'it returns false'. Refute it at one input. -/
def fnExactTermCircuitWrong : ChangeSpec := { name := "fnExactTermCircuit", fn := fun _ => fun
  | [d] => { results := [.lit (.bool false)], args := [d] }
  | _ => none }
def FnExactTermCircuitWrongFalsely : Prop := fnExactTermCircuitRow.holds Try.pinned (OpenSpec.ofChange fnExactTermCircuitWrong)

/- THE SECOND FORM. 'bulk': how many values and letters a reading holds, each counted each time it is reached (what is shared counts as often as it is met; a slice's spare places count too). A statement '..UptoSaid' is the law's where the arguments, and the package variables that the reading takes, are together of bulk at most 1048576: NARROWER than '..Said'. Prove '..Said' where nothing that the law and all that it calls make is longer than what came in: it says more and counts as full. Else prove '..UptoSaid'. A law counts once. -/
mutual
def uptoBulk {H : Type} : DataW H → Nat
  | .lit (.string bytes) => bytes.length + 1
  | .lit _ => 1
  | .nil => 1
  | .ptr d => uptoBulk d + 1
  | .slice elems spare => uptoBulkAll elems + uptoBulkAll spare + 1
  | .agg parts => uptoBulkAll parts + 1
  | .iface _ d => uptoBulk d + 1
  | .map entries => uptoBulkEntries entries + 1
  | .held _ => 1
def uptoBulkAll {H : Type} : List (DataW H) → Nat
  | [] => 0
  | d :: r => uptoBulk d + uptoBulkAll r
def uptoBulkEntries {H : Type} : List (Lit × DataW H) → Nat
  | [] => 0
  | x :: r => uptoBulkEntry x + uptoBulkEntries r
def uptoBulkEntry {H : Type} : Lit × DataW H → Nat
  | (.string bytes, d) => bytes.length + uptoBulk d + 1
  | (_, d) => uptoBulk d + 1
 end
def uptoSmall : (H : Type) → List (DataW H) → Bool := fun _ ds => decide (uptoBulkAll ds ≤ 1048576)
def OpenSpec.upto (s : _root_.Go.ChangeSpec) : _root_.Go.OpenSpec := { _root_.Go.OpenSpec.ofChange s with cond := some uptoSmall }

/-- 'laws.FnExactFewestCrossings', WHERE WHAT IT READS IS OF BULK AT MOST 1048576: true; the input reads as it did. -/
def fnExactFewestCrossingsUptoRow : OpenClaim := { program := "yteefbjkhheghkaa", sum := "66bedd8db6cd61750ad434fae12ba084258d69a30eae0ee70a23d3a0161d4eb4", func := "loop.example/g00942/laws.FnExactFewestCrossings", spec := "fnExactFewestCrossings", unfollowed := true, recurses := true, apart := false, narrowed := true }
def FnExactFewestCrossingsUptoSaid : Prop := fnExactFewestCrossingsUptoRow.holds Try.pinned (OpenSpec.upto fnExactFewestCrossingsSpec)

/-- 'laws.FnExactMiddleOrder', WHERE WHAT IT READS IS OF BULK AT MOST 1048576: true; the input reads as it did. -/
def fnExactMiddleOrderUptoRow : OpenClaim := { program := "yteefbjkhheghkaa", sum := "66bedd8db6cd61750ad434fae12ba084258d69a30eae0ee70a23d3a0161d4eb4", func := "loop.example/g00942/laws.FnExactMiddleOrder", spec := "fnExactMiddleOrder", unfollowed := true, recurses := true, apart := false, narrowed := true }
def FnExactMiddleOrderUptoSaid : Prop := fnExactMiddleOrderUptoRow.holds Try.pinned (OpenSpec.upto fnExactMiddleOrderSpec)

/-- 'laws.FnExactLeftEdge', WHERE WHAT IT READS IS OF BULK AT MOST 1048576: true; the input reads as it did. -/
def fnExactLeftEdgeUptoRow : OpenClaim := { program := "yteefbjkhheghkaa", sum := "66bedd8db6cd61750ad434fae12ba084258d69a30eae0ee70a23d3a0161d4eb4", func := "loop.example/g00942/laws.FnExactLeftEdge", spec := "fnExactLeftEdge", unfollowed := true, recurses := true, apart := false, narrowed := true }
def FnExactLeftEdgeUptoSaid : Prop := fnExactLeftEdgeUptoRow.holds Try.pinned (OpenSpec.upto fnExactLeftEdgeSpec)

/-- 'laws.FnExactTermCircuit', WHERE WHAT IT READS IS OF BULK AT MOST 1048576: true; the input reads as it did. -/
def fnExactTermCircuitUptoRow : OpenClaim := { program := "yteefbjkhheghkaa", sum := "66bedd8db6cd61750ad434fae12ba084258d69a30eae0ee70a23d3a0161d4eb4", func := "loop.example/g00942/laws.FnExactTermCircuit", spec := "fnExactTermCircuit", unfollowed := true, recurses := true, apart := false, narrowed := true }
def FnExactTermCircuitUptoSaid : Prop := fnExactTermCircuitUptoRow.holds Try.pinned (OpenSpec.upto fnExactTermCircuitSpec)

end Rows
end Go.Proofs.Yteefbjkhheghkaa
