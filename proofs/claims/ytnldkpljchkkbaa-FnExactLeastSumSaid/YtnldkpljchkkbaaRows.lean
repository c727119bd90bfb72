/-
  No cell of these rows narrows 'for every input' (looked for: loops, veiled, ifaces, maps, wideKeys, modest, calm, conditions, laid).
  DERIVED. THE GIVEN ROWS OF THIS SEAT. 6 by the template 'for every input the law returns true; each argument reads behind the call as it read before'; 0 by the template 'total and deterministic' (their statements: YtnldkpljchkkbaaTotals.lean).
  GIVEN WITH THE SEED: the statements are not yours to turn. If you find one false, say at which input.
  Laid BY PROGRAM, IN A SANDBOX (cutbox-rows.mjs): the forced cells as the released guide's own fill.sh prints them over the translation 655981269153b1c6… (all of the seat's roots in one cut). By AI agents, Wed Nov 11 2026. No macro, syntax, notation, axiom, sorry.
-/
import Derived.Test.YtnldkpljchkkbaaChecked
import GoSem.Claim
import GoSem.ClaimJoined
import GoSem.ClaimMapViews
import Derived.JoinedTies
import Derived.KernelRfl
namespace Go.Proofs.Ytnldkpljchkkbaa
/- THE CELL 'sum', in the pinned program and in every row, IS THE sha256 OF THE DUMP (.gsa) THAT YtnldkpljchkkbaaProg.lean LOADS. Nothing in Lean hashes anything: it is a label: what it is worth is what the hold of that sum in a sandbox is worth. -/
noncomputable def Try.pinned : Pinned := { name := "ytnldkpljchkkbaa", sum := "655981269153b1c6143c2967f6f812c9527e01596bd41eced1aa9ce77ee23688", checked := Try.checked }
namespace Rows
def none {H : Type} : Left H := { results := [], args := [] }

/-- 'laws.FnExactLeftEdge': WHATEVER THE INPUT: true; the input reads as it did. -/
def fnExactLeftEdgeSpec : ChangeSpec := { name := "fnExactLeftEdge", fn := fun _ => fun
  | [d] => { results := [.lit (.bool true)], args := [d] }
  | _ => none }
def fnExactLeftEdgeRow : OpenClaim := { program := "ytnldkpljchkkbaa", sum := "655981269153b1c6143c2967f6f812c9527e01596bd41eced1aa9ce77ee23688", func := "loop.example/g00942/laws.FnExactLeftEdge", spec := "fnExactLeftEdge", unfollowed := true, recurses := true, apart := false }
def FnExactLeftEdgeSaid : Prop := fnExactLeftEdgeRow.holds Try.pinned (OpenSpec.ofChange fnExactLeftEdgeSpec)

/-- ITS FALSE NEIGHBOUR: 'it returns false'. Refute it at one input. -/
def fnExactLeftEdgeWrong : ChangeSpec := { name := "fnExactLeftEdge", fn := fun _ => fun
  | [d] => { results := [.lit (.bool false)], args := [d] }
  | _ => none }
def FnExactLeftEdgeWrongFalsely : Prop := fnExactLeftEdgeRow.holds Try.pinned (OpenSpec.ofChange fnExactLeftEdgeWrong)

/-- 'laws.FnExactLevelWires': WHATEVER THE INPUT: true; the input reads as it did. -/
def fnExactLevelWiresSpec : ChangeSpec := { name := "fnExactLevelWires", fn := fun _ => fun
  | [d1, d2] => { results := [.lit (.bool true)], args := [d1, d2] }
  | _ => none }
def fnExactLevelWiresRow : OpenClaim := { program := "ytnldkpljchkkbaa", sum := "655981269153b1c6143c2967f6f812c9527e01596bd41eced1aa9ce77ee23688", func := "loop.example/g00942/laws.FnExactLevelWires", spec := "fnExactLevelWires", apart := false }
def FnExactLevelWiresSaid : Prop := fnExactLevelWiresRow.holds Try.pinned (OpenSpec.ofChange fnExactLevelWiresSpec)

/-- ITS FALSE NEIGHBOUR: 'it returns false'. Refute it at one input. -/
def fnExactLevelWiresWrong : ChangeSpec := { name := "fnExactLevelWires", fn := fun _ => fun
  | [d1, d2] => { results := [.lit (.bool false)], args := [d1, d2] }
  | _ => none }
def FnExactLevelWiresWrongFalsely : Prop := fnExactLevelWiresRow.holds Try.pinned (OpenSpec.ofChange fnExactLevelWiresWrong)

/-- 'laws.FnExactEqualGates': WHATEVER THE INPUT: true; the input reads as it did. -/
def fnExactEqualGatesSpec : ChangeSpec := { name := "fnExactEqualGates", fn := fun _ => fun
  | [d] => { results := [.lit (.bool true)], args := [d] }
  | _ => none }
def fnExactEqualGatesRow : OpenClaim := { program := "ytnldkpljchkkbaa", sum := "655981269153b1c6143c2967f6f812c9527e01596bd41eced1aa9ce77ee23688", func := "loop.example/g00942/laws.FnExactEqualGates", spec := "fnExactEqualGates", apart := false }
def FnExactEqualGatesSaid : Prop := fnExactEqualGatesRow.holds Try.pinned (OpenSpec.ofChange fnExactEqualGatesSpec)

/-- ITS FALSE NEIGHBOUR: 'it returns false'. Refute it at one input. -/
def fnExactEqualGatesWrong : ChangeSpec := { name := "fnExactEqualGates", fn := fun _ => fun
  | [d] => { results := [.lit (.bool false)], args := [d] }
  | _ => none }
def FnExactEqualGatesWrongFalsely : Prop := fnExactEqualGatesRow.holds Try.pinned (OpenSpec.ofChange fnExactEqualGatesWrong)

/-- 'laws.FnExactLeastSum': WHATEVER THE INPUT: true; the input reads as it did. -/
def fnExactLeastSumSpec : ChangeSpec := { name := "fnExactLeastSum", fn := fun _ => fun
  | [d] => { results := [.lit (.bool true)], args := [d] }
  | _ => none }
def fnExactLeastSumRow : OpenClaim := { program := "ytnldkpljchkkbaa", sum := "655981269153b1c6143c2967f6f812c9527e01596bd41eced1aa9ce77ee23688", func := "loop.example/g00942/laws.FnExactLeastSum", spec := "fnExactLeastSum", unfollowed := true, recurses := true, apart := false }
def FnExactLeastSumSaid : Prop := fnExactLeastSumRow.holds Try.pinned (OpenSpec.ofChange fnExactLeastSumSpec)

/-- ITS FALSE NEIGHBOUR: 'it returns false'. Refute it at one input. -/
def fnExactLeastSumWrong : ChangeSpec := { name := "fnExactLeastSum", fn := fun _ => fun
  | [d] => { results := [.lit (.bool false)], args := [d] }
  | _ => none }
def FnExactLeastSumWrongFalsely : Prop := fnExactLeastSumRow.holds Try.pinned (OpenSpec.ofChange fnExactLeastSumWrong)

/-- 'laws.FnExactCombineDiagrams': WHATEVER THE INPUT: true; the input reads as it did. -/
def fnExactCombineDiagramsSpec : ChangeSpec := { name := "fnExactCombineDiagrams", fn := fun _ => fun
  | [d1, d2, d3] => { results := [.lit (.bool true)], args := [d1, d2, d3] }
  | _ => none }
def fnExactCombineDiagramsRow : OpenClaim := { program := "ytnldkpljchkkbaa", sum := "655981269153b1c6143c2967f6f812c9527e01596bd41eced1aa9ce77ee23688", func := "loop.example/g00942/laws.FnExactCombineDiagrams", spec := "fnExactCombineDiagrams", unfollowed := true, recurses := true, apart := false }
def FnExactCombineDiagramsSaid : Prop := fnExactCombineDiagramsRow.holds Try.pinned (OpenSpec.ofChange fnExactCombineDiagramsSpec)

/-- ITS FALSE NEIGHBOUR: 'it returns false'. Refute it at one input. -/
def fnExactCombineDiagramsWrong : ChangeSpec := { name := "fnExactCombineDiagrams", fn := fun _ => fun
  | [d1, d2, d3] => { results := [.lit (.bool false)], args := [d1, d2, d3] }
  | _ => none }
def FnExactCombineDiagramsWrongFalsely : Prop := fnExactCombineDiagramsRow.holds Try.pinned (OpenSpec.ofChange fnExactCombineDiagramsWrong)

/-- 'laws.FnTracks': WHATEVER THE INPUT: true; the input reads as it did. -/
def fnTracksSpec : ChangeSpec := { name := "fnTracks", fn := fun _ => fun
  | [d1, d2] => { results := [.lit (.bool true)], args := [d1, d2] }
  | _ => none }
def fnTracksRow : OpenClaim := { program := "ytnldkpljchkkbaa", sum := "655981269153b1c6143c2967f6f812c9527e01596bd41eced1aa9ce77ee23688", func := "loop.example/g00942/laws.FnTracks", spec := "fnTracks", apart := false }
def FnTracksSaid : Prop := fnTracksRow.holds Try.pinned (OpenSpec.ofChange fnTracksSpec)

/-- ITS FALSE NEIGHBOUR: 'it returns false'. Refute it at one input. -/
def fnTracksWrong : ChangeSpec := { name := "fnTracks", fn := fun _ => fun
  | [d1, d2] => { results := [.lit (.bool false)], args := [d1, d2] }
  | _ => none }
def FnTracksWrongFalsely : Prop := fnTracksRow.holds Try.pinned (OpenSpec.ofChange fnTracksWrong)

/- THE SECOND FORM. 'bulk': how many values and letters a reading holds, each counted each time it is reached (what is shared counts as often as it is met; a slice's spare places count too). A statement '..UptoSaid' is the law's where the arguments, and the package variables that the reading takes, are together of bulk at most 1048576: NARROWER than '..Said'. Prove '..Said' where nothing that the law and all that it calls make is longer than what came in: it says more and counts as full. Else prove '..UptoSaid'. A law counts once. -/
mutual
def uptoBulk {H : Type} : DataW H → Nat
  | .lit (.string bytes) => bytes.length + 1
  | .lit _ => 1
  | .nil => 1
  | .ptr d => uptoBulk d + 1
  | .slice elems spare => uptoBulkAll elems + uptoBulkAll spare + 1
  | .agg parts => uptoBulkAll parts + 1
  | .iface _ d => uptoBulk d + 1
  | .map entries => uptoBulkEntries entries + 1
  | .held _ => 1
def uptoBulkAll {H : Type} : List (DataW H) → Nat
  | [] => 0
  | d :: r => uptoBulk d + uptoBulkAll r
def uptoBulkEntries {H : Type} : List (Lit × DataW H) → Nat
  | [] => 0
  | x :: r => uptoBulkEntry x + uptoBulkEntries r
def uptoBulkEntry {H : Type} : Lit × DataW H → Nat
  | (.string bytes, d) => bytes.length + uptoBulk d + 1
  | (_, d) => uptoBulk d + 1
 end
def uptoSmall : (H : Type) → List (DataW H) → Bool := fun _ ds => decide (uptoBulkAll ds ≤ 1048576)
def OpenSpec.upto (s : _root_.Go.ChangeSpec) : _root_.Go.OpenSpec := { _root_.Go.OpenSpec.ofChange s with cond := some uptoSmall }

/-- 'laws.FnExactLeftEdge', WHERE WHAT IT READS IS OF BULK AT MOST 1048576: true; the input reads as it did. -/
def fnExactLeftEdgeUptoRow : OpenClaim := { program := "ytnldkpljchkkbaa", sum := "655981269153b1c6143c2967f6f812c9527e01596bd41eced1aa9ce77ee23688", func := "loop.example/g00942/laws.FnExactLeftEdge", spec := "fnExactLeftEdge", unfollowed := true, recurses := true, apart := false, narrowed := true }
def FnExactLeftEdgeUptoSaid : Prop := fnExactLeftEdgeUptoRow.holds Try.pinned (OpenSpec.upto fnExactLeftEdgeSpec)

/-- 'laws.FnExactLevelWires', WHERE WHAT IT READS IS OF BULK AT MOST 1048576: true; the input reads as it did. -/
def fnExactLevelWiresUptoRow : OpenClaim := { program := "ytnldkpljchkkbaa", sum := "655981269153b1c6143c2967f6f812c9527e01596bd41eced1aa9ce77ee23688", func := "loop.example/g00942/laws.FnExactLevelWires", spec := "fnExactLevelWires", apart := false, narrowed := true }
def FnExactLevelWiresUptoSaid : Prop := fnExactLevelWiresUptoRow.holds Try.pinned (OpenSpec.upto fnExactLevelWiresSpec)

/-- 'laws.FnExactEqualGates', WHERE WHAT IT READS IS OF BULK AT MOST 1048576: true; the input reads as it did. -/
def fnExactEqualGatesUptoRow : OpenClaim := { program := "ytnldkpljchkkbaa", sum := "655981269153b1c6143c2967f6f812c9527e01596bd41eced1aa9ce77ee23688", func := "loop.example/g00942/laws.FnExactEqualGates", spec := "fnExactEqualGates", apart := false, narrowed := true }
def FnExactEqualGatesUptoSaid : Prop := fnExactEqualGatesUptoRow.holds Try.pinned (OpenSpec.upto fnExactEqualGatesSpec)

/-- 'laws.FnExactLeastSum', WHERE WHAT IT READS IS OF BULK AT MOST 1048576: true; the input reads as it did. -/
def fnExactLeastSumUptoRow : OpenClaim := { program := "ytnldkpljchkkbaa", sum := "655981269153b1c6143c2967f6f812c9527e01596bd41eced1aa9ce77ee23688", func := "loop.example/g00942/laws.FnExactLeastSum", spec := "fnExactLeastSum", unfollowed := true, recurses := true, apart := false, narrowed := true }
def FnExactLeastSumUptoSaid : Prop := fnExactLeastSumUptoRow.holds Try.pinned (OpenSpec.upto fnExactLeastSumSpec)

/-- 'laws.FnExactCombineDiagrams', WHERE WHAT IT READS IS OF BULK AT MOST 1048576: true; the input reads as it did. -/
def fnExactCombineDiagramsUptoRow : OpenClaim := { program := "ytnldkpljchkkbaa", sum := "655981269153b1c6143c2967f6f812c9527e01596bd41eced1aa9ce77ee23688", func := "loop.example/g00942/laws.FnExactCombineDiagrams", spec := "fnExactCombineDiagrams", unfollowed := true, recurses := true, apart := false, narrowed := true }
def FnExactCombineDiagramsUptoSaid : Prop := fnExactCombineDiagramsUptoRow.holds Try.pinned (OpenSpec.upto fnExactCombineDiagramsSpec)

/-- 'laws.FnTracks', WHERE WHAT IT READS IS OF BULK AT MOST 1048576: true; the input reads as it did. -/
def fnTracksUptoRow : OpenClaim := { program := "ytnldkpljchkkbaa", sum := "655981269153b1c6143c2967f6f812c9527e01596bd41eced1aa9ce77ee23688", func := "loop.example/g00942/laws.FnTracks", spec := "fnTracks", apart := false, narrowed := true }
def FnTracksUptoSaid : Prop := fnTracksUptoRow.holds Try.pinned (OpenSpec.upto fnTracksSpec)

end Rows
end Go.Proofs.Ytnldkpljchkkbaa
