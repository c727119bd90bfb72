/-
  No cell of these rows narrows 'for every input' (looked for: loops, veiled, ifaces, maps, wideKeys, modest, calm, conditions, laid).
  DERIVED. THE GIVEN ROWS OF THIS SEAT. 6 by the template 'for every input the law returns true; each argument reads behind the call as it read before'; 0 by the template 'total and deterministic' (their statements: YtbkighlfgaifeaaTotals.lean).
  GIVEN WITH THE SEED: the statements are not yours to turn. If you find one false, say at which input.
  Laid BY PROGRAM, IN A SANDBOX (cutbox-rows.mjs): the forced cells as the released guide's own fill.sh prints them over the translation 997653afcd5b960e… (all of the seat's roots in one cut). By AI agents, Wed Nov 11 2026. No macro, syntax, notation, axiom, sorry.
-/
import Derived.Test.YtbkighlfgaifeaaChecked
import GoSem.Claim
import GoSem.ClaimJoined
import GoSem.ClaimMapViews
import Derived.JoinedTies
import Derived.KernelRfl
namespace Go.Proofs.Ytbkighlfgaifeaa
/- THE CELL 'sum', in the pinned program and in every row, IS THE sha256 OF THE DUMP (.gsa) THAT YtbkighlfgaifeaaProg.lean LOADS. Nothing in Lean hashes anything: it is a label: what it is worth is what the hold of that sum in a sandbox is worth. -/
noncomputable def Try.pinned : Pinned := { name := "ytbkighlfgaifeaa", sum := "997653afcd5b960e2128b4a8edce4afbb3e9319663645287e315bfb11337f83b", checked := Try.checked }
namespace Rows
def none {H : Type} : Left H := { results := [], args := [] }

/-- 'laws.FnTracks': WHATEVER THE INPUT: true; the input reads as it did. -/
def fnTracksSpec : ChangeSpec := { name := "fnTracks", fn := fun _ => fun
  | [d1, d2] => { results := [.lit (.bool true)], args := [d1, d2] }
  | _ => none }
def fnTracksRow : OpenClaim := { program := "ytbkighlfgaifeaa", sum := "997653afcd5b960e2128b4a8edce4afbb3e9319663645287e315bfb11337f83b", func := "loop.example/g00942/laws.FnTracks", spec := "fnTracks", apart := false }
def FnTracksSaid : Prop := fnTracksRow.holds Try.pinned (OpenSpec.ofChange fnTracksSpec)

/-- ITS FALSE NEIGHBOUR: 'it returns false'. Refute it at one input. -/
def fnTracksWrong : ChangeSpec := { name := "fnTracks", fn := fun _ => fun
  | [d1, d2] => { results := [.lit (.bool false)], args := [d1, d2] }
  | _ => none }
def FnTracksWrongFalsely : Prop := fnTracksRow.holds Try.pinned (OpenSpec.ofChange fnTracksWrong)

/-- 'laws.FnGates': WHATEVER THE INPUT: true; the input reads as it did. -/
def fnGatesSpec : ChangeSpec := { name := "fnGates", fn := fun _ => fun
  | [d1, d2] => { results := [.lit (.bool true)], args := [d1, d2] }
  | _ => none }
def fnGatesRow : OpenClaim := { program := "ytbkighlfgaifeaa", sum := "997653afcd5b960e2128b4a8edce4afbb3e9319663645287e315bfb11337f83b", func := "loop.example/g00942/laws.FnGates", spec := "fnGates", apart := false }
def FnGatesSaid : Prop := fnGatesRow.holds Try.pinned (OpenSpec.ofChange fnGatesSpec)

/-- ITS FALSE NEIGHBOUR: 'it returns false'. Refute it at one input. -/
def fnGatesWrong : ChangeSpec := { name := "fnGates", fn := fun _ => fun
  | [d1, d2] => { results := [.lit (.bool false)], args := [d1, d2] }
  | _ => none }
def FnGatesWrongFalsely : Prop := fnGatesRow.holds Try.pinned (OpenSpec.ofChange fnGatesWrong)

/-- 'laws.FnPrimes': WHATEVER THE INPUT: true; the input reads as it did. -/
def fnPrimesSpec : ChangeSpec := { name := "fnPrimes", fn := fun _ => fun
  | [d1, d2] => { results := [.lit (.bool true)], args := [d1, d2] }
  | _ => none }
def fnPrimesRow : OpenClaim := { program := "ytbkighlfgaifeaa", sum := "997653afcd5b960e2128b4a8edce4afbb3e9319663645287e315bfb11337f83b", func := "loop.example/g00942/laws.FnPrimes", spec := "fnPrimes", recurses := true, apart := false }
def FnPrimesSaid : Prop := fnPrimesRow.holds Try.pinned (OpenSpec.ofChange fnPrimesSpec)

/-- ITS FALSE NEIGHBOUR: 'it returns false'. Refute it at one input. -/
def fnPrimesWrong : ChangeSpec := { name := "fnPrimes", fn := fun _ => fun
  | [d1, d2] => { results := [.lit (.bool false)], args := [d1, d2] }
  | _ => none }
def FnPrimesWrongFalsely : Prop := fnPrimesRow.holds Try.pinned (OpenSpec.ofChange fnPrimesWrong)

/-- 'laws.FnCrossings': WHATEVER THE INPUT: true; the input reads as it did. -/
def fnCrossingsSpec : ChangeSpec := { name := "fnCrossings", fn := fun _ => fun
  | [d1, d2] => { results := [.lit (.bool true)], args := [d1, d2] }
  | _ => none }
def fnCrossingsRow : OpenClaim := { program := "ytbkighlfgaifeaa", sum := "997653afcd5b960e2128b4a8edce4afbb3e9319663645287e315bfb11337f83b", func := "loop.example/g00942/laws.FnCrossings", spec := "fnCrossings", apart := false }
def FnCrossingsSaid : Prop := fnCrossingsRow.holds Try.pinned (OpenSpec.ofChange fnCrossingsSpec)

/-- ITS FALSE NEIGHBOUR: 'it returns false'. Refute it at one input. -/
def fnCrossingsWrong : ChangeSpec := { name := "fnCrossings", fn := fun _ => fun
  | [d1, d2] => { results := [.lit (.bool false)], args := [d1, d2] }
  | _ => none }
def FnCrossingsWrongFalsely : Prop := fnCrossingsRow.holds Try.pinned (OpenSpec.ofChange fnCrossingsWrong)

/-- 'laws.FnRoutings': WHATEVER THE INPUT: true; the input reads as it did. -/
def fnRoutingsSpec : ChangeSpec := { name := "fnRoutings", fn := fun _ => fun
  | [d1, d2] => { results := [.lit (.bool true)], args := [d1, d2] }
  | _ => none }
def fnRoutingsRow : OpenClaim := { program := "ytbkighlfgaifeaa", sum := "997653afcd5b960e2128b4a8edce4afbb3e9319663645287e315bfb11337f83b", func := "loop.example/g00942/laws.FnRoutings", spec := "fnRoutings", unfollowed := true, recurses := true, apart := false }
def FnRoutingsSaid : Prop := fnRoutingsRow.holds Try.pinned (OpenSpec.ofChange fnRoutingsSpec)

/-- ITS FALSE NEIGHBOUR: 'it returns false'. Refute it at one input. -/
def fnRoutingsWrong : ChangeSpec := { name := "fnRoutings", fn := fun _ => fun
  | [d1, d2] => { results := [.lit (.bool false)], args := [d1, d2] }
  | _ => none }
def FnRoutingsWrongFalsely : Prop := fnRoutingsRow.holds Try.pinned (OpenSpec.ofChange fnRoutingsWrong)

/-- 'laws.FnLeastSums': WHATEVER THE INPUT: true; the input reads as it did. -/
def fnLeastSumsSpec : ChangeSpec := { name := "fnLeastSums", fn := fun _ => fun
  | [d1, d2] => { results := [.lit (.bool true)], args := [d1, d2] }
  | _ => none }
def fnLeastSumsRow : OpenClaim := { program := "ytbkighlfgaifeaa", sum := "997653afcd5b960e2128b4a8edce4afbb3e9319663645287e315bfb11337f83b", func := "loop.example/g00942/laws.FnLeastSums", spec := "fnLeastSums", unfollowed := true, recurses := true, apart := false }
def FnLeastSumsSaid : Prop := fnLeastSumsRow.holds Try.pinned (OpenSpec.ofChange fnLeastSumsSpec)

/-- ITS FALSE NEIGHBOUR: 'it returns false'. Refute it at one input. -/
def fnLeastSumsWrong : ChangeSpec := { name := "fnLeastSums", fn := fun _ => fun
  | [d1, d2] => { results := [.lit (.bool false)], args := [d1, d2] }
  | _ => none }
def FnLeastSumsWrongFalsely : Prop := fnLeastSumsRow.holds Try.pinned (OpenSpec.ofChange fnLeastSumsWrong)

/- THE SECOND FORM. 'bulk': how many values and letters a reading holds, each counted each time it is reached (what is shared counts as often as it is met; a slice's spare places count too). A statement '..UptoSaid' is the law's where the arguments, and the package variables that the reading takes, are together of bulk at most 1048576: NARROWER than '..Said'. Prove '..Said' where nothing that the law and all that it calls make is longer than what came in: it says more and counts as full. Else prove '..UptoSaid'. A law counts once. -/
mutual
def uptoBulk {H : Type} : DataW H → Nat
  | .lit (.string bytes) => bytes.length + 1
  | .lit _ => 1
  | .nil => 1
  | .ptr d => uptoBulk d + 1
  | .slice elems spare => uptoBulkAll elems + uptoBulkAll spare + 1
  | .agg parts => uptoBulkAll parts + 1
  | .iface _ d => uptoBulk d + 1
  | .map entries => uptoBulkEntries entries + 1
  | .held _ => 1
def uptoBulkAll {H : Type} : List (DataW H) → Nat
  | [] => 0
  | d :: r => uptoBulk d + uptoBulkAll r
def uptoBulkEntries {H : Type} : List (Lit × DataW H) → Nat
  | [] => 0
  | x :: r => uptoBulkEntry x + uptoBulkEntries r
def uptoBulkEntry {H : Type} : Lit × DataW H → Nat
  | (.string bytes, d) => bytes.length + uptoBulk d + 1
  | (_, d) => uptoBulk d + 1
 end
def uptoSmall : (H : Type) → List (DataW H) → Bool := fun _ ds => decide (uptoBulkAll ds ≤ 1048576)
def OpenSpec.upto (s : _root_.Go.ChangeSpec) : _root_.Go.OpenSpec := { _root_.Go.OpenSpec.ofChange s with cond := some uptoSmall }

/-- 'laws.FnTracks', WHERE WHAT IT READS IS OF BULK AT MOST 1048576: true; the input reads as it did. -/
def fnTracksUptoRow : OpenClaim := { program := "ytbkighlfgaifeaa", sum := "997653afcd5b960e2128b4a8edce4afbb3e9319663645287e315bfb11337f83b", func := "loop.example/g00942/laws.FnTracks", spec := "fnTracks", apart := false, narrowed := true }
def FnTracksUptoSaid : Prop := fnTracksUptoRow.holds Try.pinned (OpenSpec.upto fnTracksSpec)

/-- 'laws.FnGates', WHERE WHAT IT READS IS OF BULK AT MOST 1048576: true; the input reads as it did. -/
def fnGatesUptoRow : OpenClaim := { program := "ytbkighlfgaifeaa", sum := "997653afcd5b960e2128b4a8edce4afbb3e9319663645287e315bfb11337f83b", func := "loop.example/g00942/laws.FnGates", spec := "fnGates", apart := false, narrowed := true }
def FnGatesUptoSaid : Prop := fnGatesUptoRow.holds Try.pinned (OpenSpec.upto fnGatesSpec)

/-- 'laws.FnPrimes', WHERE WHAT IT READS IS OF BULK AT MOST 1048576: true; the input reads as it did. -/
def fnPrimesUptoRow : OpenClaim := { program := "ytbkighlfgaifeaa", sum := "997653afcd5b960e2128b4a8edce4afbb3e9319663645287e315bfb11337f83b", func := "loop.example/g00942/laws.FnPrimes", spec := "fnPrimes", recurses := true, apart := false, narrowed := true }
def FnPrimesUptoSaid : Prop := fnPrimesUptoRow.holds Try.pinned (OpenSpec.upto fnPrimesSpec)

/-- 'laws.FnCrossings', WHERE WHAT IT READS IS OF BULK AT MOST 1048576: true; the input reads as it did. -/
def fnCrossingsUptoRow : OpenClaim := { program := "ytbkighlfgaifeaa", sum := "997653afcd5b960e2128b4a8edce4afbb3e9319663645287e315bfb11337f83b", func := "loop.example/g00942/laws.FnCrossings", spec := "fnCrossings", apart := false, narrowed := true }
def FnCrossingsUptoSaid : Prop := fnCrossingsUptoRow.holds Try.pinned (OpenSpec.upto fnCrossingsSpec)

/-- 'laws.FnRoutings', WHERE WHAT IT READS IS OF BULK AT MOST 1048576: true; the input reads as it did. -/
def fnRoutingsUptoRow : OpenClaim := { program := "ytbkighlfgaifeaa", sum := "997653afcd5b960e2128b4a8edce4afbb3e9319663645287e315bfb11337f83b", func := "loop.example/g00942/laws.FnRoutings", spec := "fnRoutings", unfollowed := true, recurses := true, apart := false, narrowed := true }
def FnRoutingsUptoSaid : Prop := fnRoutingsUptoRow.holds Try.pinned (OpenSpec.upto fnRoutingsSpec)

/-- 'laws.FnLeastSums', WHERE WHAT IT READS IS OF BULK AT MOST 1048576: true; the input reads as it did. -/
def fnLeastSumsUptoRow : OpenClaim := { program := "ytbkighlfgaifeaa", sum := "997653afcd5b960e2128b4a8edce4afbb3e9319663645287e315bfb11337f83b", func := "loop.example/g00942/laws.FnLeastSums", spec := "fnLeastSums", unfollowed := true, recurses := true, apart := false, narrowed := true }
def FnLeastSumsUptoSaid : Prop := fnLeastSumsUptoRow.holds Try.pinned (OpenSpec.upto fnLeastSumsSpec)

end Rows
end Go.Proofs.Ytbkighlfgaifeaa
