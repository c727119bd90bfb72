/-
  No cell of these rows narrows 'for every input' (looked for: loops, veiled, ifaces, maps, wideKeys, modest, calm, conditions, laid).
  DERIVED. THE GIVEN ROWS OF THIS SEAT. 5 by the template 'for every input the law returns true; each argument reads behind the call as it read before'; 0 by the template 'total and deterministic' (their statements: YtgildlmeaengoaaTotals.lean).
  GIVEN WITH THE SEED: the statements are not yours to turn. If you find one false, say at which input.
  Laid BY PROGRAM, IN A SANDBOX (cutbox-rows.mjs): the forced cells as the released guide's own fill.sh prints them over the translation d0741843272a2d4f… (all of the seat's roots in one cut). By AI agents, Wed Nov 11 2026. No macro, syntax, notation, axiom, sorry.
-/
import Derived.Test.YtgildlmeaengoaaChecked
import GoSem.Claim
import GoSem.ClaimJoined
import GoSem.ClaimMapViews
import Derived.JoinedTies
import Derived.KernelRfl
namespace Go.Proofs.Ytgildlmeaengoaa
/- THE CELL 'sum', in the pinned program and in every row, IS THE sha256 OF THE DUMP (.gsa) THAT YtgildlmeaengoaaProg.lean LOADS. Nothing in Lean hashes anything: it is a label: what it is worth is what the hold of that sum in a sandbox is worth. -/
noncomputable def Try.pinned : Pinned := { name := "ytgildlmeaengoaa", sum := "d0741843272a2d4f4a1d20920d95adb97bc9818e898db0afb071dabbc6978b9e", checked := Try.checked }
namespace Rows
def none {H : Type} : Left H := { results := [], args := [] }

/-- 'laws.FnExactTracksUsed': WHATEVER THE INPUT: true; the input reads as it did. -/
def fnExactTracksUsedSpec : ChangeSpec := { name := "fnExactTracksUsed", fn := fun _ => fun
  | [d] => { results := [.lit (.bool true)], args := [d] }
  | _ => none }
def fnExactTracksUsedRow : OpenClaim := { program := "ytgildlmeaengoaa", sum := "d0741843272a2d4f4a1d20920d95adb97bc9818e898db0afb071dabbc6978b9e", func := "loop.example/g00942/laws.FnExactTracksUsed", spec := "fnExactTracksUsed", apart := false }
def FnExactTracksUsedSaid : Prop := fnExactTracksUsedRow.holds Try.pinned (OpenSpec.ofChange fnExactTracksUsedSpec)

/-- ITS FALSE NEIGHBOUR: 'it returns false'. Refute it at one input. -/
def fnExactTracksUsedWrong : ChangeSpec := { name := "fnExactTracksUsed", fn := fun _ => fun
  | [d] => { results := [.lit (.bool false)], args := [d] }
  | _ => none }
def FnExactTracksUsedWrongFalsely : Prop := fnExactTracksUsedRow.holds Try.pinned (OpenSpec.ofChange fnExactTracksUsedWrong)

/-- 'laws.FnExactDensityAt': WHATEVER THE INPUT: true; the input reads as it did. -/
def fnExactDensityAtSpec : ChangeSpec := { name := "fnExactDensityAt", fn := fun _ => fun
  | [d1, d2] => { results := [.lit (.bool true)], args := [d1, d2] }
  | _ => none }
def fnExactDensityAtRow : OpenClaim := { program := "ytgildlmeaengoaa", sum := "d0741843272a2d4f4a1d20920d95adb97bc9818e898db0afb071dabbc6978b9e", func := "loop.example/g00942/laws.FnExactDensityAt", spec := "fnExactDensityAt", apart := false }
def FnExactDensityAtSaid : Prop := fnExactDensityAtRow.holds Try.pinned (OpenSpec.ofChange fnExactDensityAtSpec)

/-- ITS FALSE NEIGHBOUR: 'it returns false'. Refute it at one input. -/
def fnExactDensityAtWrong : ChangeSpec := { name := "fnExactDensityAt", fn := fun _ => fun
  | [d1, d2] => { results := [.lit (.bool false)], args := [d1, d2] }
  | _ => none }
def FnExactDensityAtWrongFalsely : Prop := fnExactDensityAtRow.holds Try.pinned (OpenSpec.ofChange fnExactDensityAtWrong)

/-- 'laws.FnExactLayersOf': WHATEVER THE INPUT: true; the input reads as it did. -/
def fnExactLayersOfSpec : ChangeSpec := { name := "fnExactLayersOf", fn := fun _ => fun
  | [d1, d2] => { results := [.lit (.bool true)], args := [d1, d2] }
  | _ => none }
def fnExactLayersOfRow : OpenClaim := { program := "ytgildlmeaengoaa", sum := "d0741843272a2d4f4a1d20920d95adb97bc9818e898db0afb071dabbc6978b9e", func := "loop.example/g00942/laws.FnExactLayersOf", spec := "fnExactLayersOf", apart := false }
def FnExactLayersOfSaid : Prop := fnExactLayersOfRow.holds Try.pinned (OpenSpec.ofChange fnExactLayersOfSpec)

/-- ITS FALSE NEIGHBOUR: 'it returns false'. Refute it at one input. -/
def fnExactLayersOfWrong : ChangeSpec := { name := "fnExactLayersOf", fn := fun _ => fun
  | [d1, d2] => { results := [.lit (.bool false)], args := [d1, d2] }
  | _ => none }
def FnExactLayersOfWrongFalsely : Prop := fnExactLayersOfRow.holds Try.pinned (OpenSpec.ofChange fnExactLayersOfWrong)

/-- 'laws.FnExactMostDense': WHATEVER THE INPUT: true; the input reads as it did. -/
def fnExactMostDenseSpec : ChangeSpec := { name := "fnExactMostDense", fn := fun _ => fun
  | [d] => { results := [.lit (.bool true)], args := [d] }
  | _ => none }
def fnExactMostDenseRow : OpenClaim := { program := "ytgildlmeaengoaa", sum := "d0741843272a2d4f4a1d20920d95adb97bc9818e898db0afb071dabbc6978b9e", func := "loop.example/g00942/laws.FnExactMostDense", spec := "fnExactMostDense", apart := false }
def FnExactMostDenseSaid : Prop := fnExactMostDenseRow.holds Try.pinned (OpenSpec.ofChange fnExactMostDenseSpec)

/-- ITS FALSE NEIGHBOUR: 'it returns false'. Refute it at one input. -/
def fnExactMostDenseWrong : ChangeSpec := { name := "fnExactMostDense", fn := fun _ => fun
  | [d] => { results := [.lit (.bool false)], args := [d] }
  | _ => none }
def FnExactMostDenseWrongFalsely : Prop := fnExactMostDenseRow.holds Try.pinned (OpenSpec.ofChange fnExactMostDenseWrong)

/-- 'laws.FnExactCountCrossings': WHATEVER THE INPUT: true; the input reads as it did. -/
def fnExactCountCrossingsSpec : ChangeSpec := { name := "fnExactCountCrossings", fn := fun _ => fun
  | [d1, d2] => { results := [.lit (.bool true)], args := [d1, d2] }
  | _ => none }
def fnExactCountCrossingsRow : OpenClaim := { program := "ytgildlmeaengoaa", sum := "d0741843272a2d4f4a1d20920d95adb97bc9818e898db0afb071dabbc6978b9e", func := "loop.example/g00942/laws.FnExactCountCrossings", spec := "fnExactCountCrossings", apart := false }
def FnExactCountCrossingsSaid : Prop := fnExactCountCrossingsRow.holds Try.pinned (OpenSpec.ofChange fnExactCountCrossingsSpec)

/-- ITS FALSE NEIGHBOUR: 'it returns false'. Refute it at one input. -/
def fnExactCountCrossingsWrong : ChangeSpec := { name := "fnExactCountCrossings", fn := fun _ => fun
  | [d1, d2] => { results := [.lit (.bool false)], args := [d1, d2] }
  | _ => none }
def FnExactCountCrossingsWrongFalsely : Prop := fnExactCountCrossingsRow.holds Try.pinned (OpenSpec.ofChange fnExactCountCrossingsWrong)

/- THE SECOND FORM. 'bulk': how many values and letters a reading holds, each counted each time it is reached (what is shared counts as often as it is met; a slice's spare places count too). A statement '..UptoSaid' is the law's where the arguments, and the package variables that the reading takes, are together of bulk at most 1048576: NARROWER than '..Said'. Prove '..Said' where nothing that the law and all that it calls make is longer than what came in: it says more and counts as full. Else prove '..UptoSaid'. A law counts once. -/
mutual
def uptoBulk {H : Type} : DataW H → Nat
  | .lit (.string bytes) => bytes.length + 1
  | .lit _ => 1
  | .nil => 1
  | .ptr d => uptoBulk d + 1
  | .slice elems spare => uptoBulkAll elems + uptoBulkAll spare + 1
  | .agg parts => uptoBulkAll parts + 1
  | .iface _ d => uptoBulk d + 1
  | .map entries => uptoBulkEntries entries + 1
  | .held _ => 1
def uptoBulkAll {H : Type} : List (DataW H) → Nat
  | [] => 0
  | d :: r => uptoBulk d + uptoBulkAll r
def uptoBulkEntries {H : Type} : List (Lit × DataW H) → Nat
  | [] => 0
  | x :: r => uptoBulkEntry x + uptoBulkEntries r
def uptoBulkEntry {H : Type} : Lit × DataW H → Nat
  | (.string bytes, d) => bytes.length + uptoBulk d + 1
  | (_, d) => uptoBulk d + 1
 end
def uptoSmall : (H : Type) → List (DataW H) → Bool := fun _ ds => decide (uptoBulkAll ds ≤ 1048576)
def OpenSpec.upto (s : _root_.Go.ChangeSpec) : _root_.Go.OpenSpec := { _root_.Go.OpenSpec.ofChange s with cond := some uptoSmall }

/-- 'laws.FnExactTracksUsed', WHERE WHAT IT READS IS OF BULK AT MOST 1048576: true; the input reads as it did. -/
def fnExactTracksUsedUptoRow : OpenClaim := { program := "ytgildlmeaengoaa", sum := "d0741843272a2d4f4a1d20920d95adb97bc9818e898db0afb071dabbc6978b9e", func := "loop.example/g00942/laws.FnExactTracksUsed", spec := "fnExactTracksUsed", apart := false, narrowed := true }
def FnExactTracksUsedUptoSaid : Prop := fnExactTracksUsedUptoRow.holds Try.pinned (OpenSpec.upto fnExactTracksUsedSpec)

/-- 'laws.FnExactDensityAt', WHERE WHAT IT READS IS OF BULK AT MOST 1048576: true; the input reads as it did. -/
def fnExactDensityAtUptoRow : OpenClaim := { program := "ytgildlmeaengoaa", sum := "d0741843272a2d4f4a1d20920d95adb97bc9818e898db0afb071dabbc6978b9e", func := "loop.example/g00942/laws.FnExactDensityAt", spec := "fnExactDensityAt", apart := false, narrowed := true }
def FnExactDensityAtUptoSaid : Prop := fnExactDensityAtUptoRow.holds Try.pinned (OpenSpec.upto fnExactDensityAtSpec)

/-- 'laws.FnExactLayersOf', WHERE WHAT IT READS IS OF BULK AT MOST 1048576: true; the input reads as it did. -/
def fnExactLayersOfUptoRow : OpenClaim := { program := "ytgildlmeaengoaa", sum := "d0741843272a2d4f4a1d20920d95adb97bc9818e898db0afb071dabbc6978b9e", func := "loop.example/g00942/laws.FnExactLayersOf", spec := "fnExactLayersOf", apart := false, narrowed := true }
def FnExactLayersOfUptoSaid : Prop := fnExactLayersOfUptoRow.holds Try.pinned (OpenSpec.upto fnExactLayersOfSpec)

/-- 'laws.FnExactMostDense', WHERE WHAT IT READS IS OF BULK AT MOST 1048576: true; the input reads as it did. -/
def fnExactMostDenseUptoRow : OpenClaim := { program := "ytgildlmeaengoaa", sum := "d0741843272a2d4f4a1d20920d95adb97bc9818e898db0afb071dabbc6978b9e", func := "loop.example/g00942/laws.FnExactMostDense", spec := "fnExactMostDense", apart := false, narrowed := true }
def FnExactMostDenseUptoSaid : Prop := fnExactMostDenseUptoRow.holds Try.pinned (OpenSpec.upto fnExactMostDenseSpec)

/-- 'laws.FnExactCountCrossings', WHERE WHAT IT READS IS OF BULK AT MOST 1048576: true; the input reads as it did. -/
def fnExactCountCrossingsUptoRow : OpenClaim := { program := "ytgildlmeaengoaa", sum := "d0741843272a2d4f4a1d20920d95adb97bc9818e898db0afb071dabbc6978b9e", func := "loop.example/g00942/laws.FnExactCountCrossings", spec := "fnExactCountCrossings", apart := false, narrowed := true }
def FnExactCountCrossingsUptoSaid : Prop := fnExactCountCrossingsUptoRow.holds Try.pinned (OpenSpec.upto fnExactCountCrossingsSpec)

end Rows
end Go.Proofs.Ytgildlmeaengoaa
