/-
  No cell of these rows narrows 'for every input' (looked for: loops, veiled, ifaces, maps, wideKeys, modest, calm, conditions, laid).
  DERIVED. THE GIVEN ROWS OF THIS SEAT. 6 by the template 'for every input the law returns true; each argument reads behind the call as it read before'; 0 by the template 'total and deterministic' (their statements: YtdhhncmhmfhfpaaTotals.lean).
  GIVEN WITH THE SEED: the statements are not yours to turn. If you find one false, say at which input.
  Laid BY PROGRAM, IN A SANDBOX (cutbox-rows.mjs): the forced cells as the released guide's own fill.sh prints them over the translation 66bd697cf01723b8… (all of the seat's roots in one cut). By AI agents, Wed Nov 11 2026. No macro, syntax, notation, axiom, sorry.
-/
import Derived.Test.YtdhhncmhmfhfpaaChecked
import GoSem.Claim
import GoSem.ClaimJoined
import GoSem.ClaimMapViews
import Derived.JoinedTies
import Derived.KernelRfl
namespace Go.Proofs.Ytdhhncmhmfhfpaa
/- THE CELL 'sum', in the pinned program and in every row, IS THE sha256 OF THE DUMP (.gsa) THAT YtdhhncmhmfhfpaaProg.lean LOADS. Nothing in Lean hashes anything: it is a label: what it is worth is what the hold of that sum in a sandbox is worth. -/
noncomputable def Try.pinned : Pinned := { name := "ytdhhncmhmfhfpaa", sum := "66bd697cf01723b8d1e15906aee39f2af5747367a30fc70981999b1ade015fa2", checked := Try.checked }
namespace Rows
def none {H : Type} : Left H := { results := [], args := [] }

/-- 'laws.FnExactLevelsOf': WHATEVER THE INPUT: true; the input reads as it did. -/
def fnExactLevelsOfSpec : ChangeSpec := { name := "fnExactLevelsOf", fn := fun _ => fun
  | [d] => { results := [.lit (.bool true)], args := [d] }
  | _ => none }
def fnExactLevelsOfRow : OpenClaim := { program := "ytdhhncmhmfhfpaa", sum := "66bd697cf01723b8d1e15906aee39f2af5747367a30fc70981999b1ade015fa2", func := "loop.example/g00942/laws.FnExactLevelsOf", spec := "fnExactLevelsOf", apart := false }
def FnExactLevelsOfSaid : Prop := fnExactLevelsOfRow.holds Try.pinned (OpenSpec.ofChange fnExactLevelsOfSpec)

/-- ITS FALSE NEIGHBOUR: 'it returns false'. Refute it at one input. -/
def fnExactLevelsOfWrong : ChangeSpec := { name := "fnExactLevelsOf", fn := fun _ => fun
  | [d] => { results := [.lit (.bool false)], args := [d] }
  | _ => none }
def FnExactLevelsOfWrongFalsely : Prop := fnExactLevelsOfRow.holds Try.pinned (OpenSpec.ofChange fnExactLevelsOfWrong)

/-- 'laws.FnExactCountLeastSums': WHATEVER THE INPUT: true; the input reads as it did. -/
def fnExactCountLeastSumsSpec : ChangeSpec := { name := "fnExactCountLeastSums", fn := fun _ => fun
  | [d] => { results := [.lit (.bool true)], args := [d] }
  | _ => none }
def fnExactCountLeastSumsRow : OpenClaim := { program := "ytdhhncmhmfhfpaa", sum := "66bd697cf01723b8d1e15906aee39f2af5747367a30fc70981999b1ade015fa2", func := "loop.example/g00942/laws.FnExactCountLeastSums", spec := "fnExactCountLeastSums", unfollowed := true, recurses := true, apart := false }
def FnExactCountLeastSumsSaid : Prop := fnExactCountLeastSumsRow.holds Try.pinned (OpenSpec.ofChange fnExactCountLeastSumsSpec)

/-- ITS FALSE NEIGHBOUR: 'it returns false'. Refute it at one input. -/
def fnExactCountLeastSumsWrong : ChangeSpec := { name := "fnExactCountLeastSums", fn := fun _ => fun
  | [d] => { results := [.lit (.bool false)], args := [d] }
  | _ => none }
def FnExactCountLeastSumsWrongFalsely : Prop := fnExactCountLeastSumsRow.holds Try.pinned (OpenSpec.ofChange fnExactCountLeastSumsWrong)

/-- 'laws.FnExactTermCircuit': WHATEVER THE INPUT: true; the input reads as it did. -/
def fnExactTermCircuitSpec : ChangeSpec := { name := "fnExactTermCircuit", fn := fun _ => fun
  | [d] => { results := [.lit (.bool true)], args := [d] }
  | _ => none }
def fnExactTermCircuitRow : OpenClaim := { program := "ytdhhncmhmfhfpaa", sum := "66bd697cf01723b8d1e15906aee39f2af5747367a30fc70981999b1ade015fa2", func := "loop.example/g00942/laws.FnExactTermCircuit", spec := "fnExactTermCircuit", unfollowed := true, recurses := true, apart := false }
def FnExactTermCircuitSaid : Prop := fnExactTermCircuitRow.holds Try.pinned (OpenSpec.ofChange fnExactTermCircuitSpec)

/-- ITS FALSE NEIGHBOUR: 'it returns false'. Refute it at one input. -/
def fnExactTermCircuitWrong : ChangeSpec := { name := "fnExactTermCircuit", fn := fun _ => fun
  | [d] => { results := [.lit (.bool false)], args := [d] }
  | _ => none }
def FnExactTermCircuitWrongFalsely : Prop := fnExactTermCircuitRow.holds Try.pinned (OpenSpec.ofChange fnExactTermCircuitWrong)

/-- 'laws.FnExactCircuitTable': WHATEVER THE INPUT: true; the input reads as it did. -/
def fnExactCircuitTableSpec : ChangeSpec := { name := "fnExactCircuitTable", fn := fun _ => fun
  | [d1, d2] => { results := [.lit (.bool true)], args := [d1, d2] }
  | _ => none }
def fnExactCircuitTableRow : OpenClaim := { program := "ytdhhncmhmfhfpaa", sum := "66bd697cf01723b8d1e15906aee39f2af5747367a30fc70981999b1ade015fa2", func := "loop.example/g00942/laws.FnExactCircuitTable", spec := "fnExactCircuitTable", apart := false }
def FnExactCircuitTableSaid : Prop := fnExactCircuitTableRow.holds Try.pinned (OpenSpec.ofChange fnExactCircuitTableSpec)

/-- ITS FALSE NEIGHBOUR: 'it returns false'. Refute it at one input. -/
def fnExactCircuitTableWrong : ChangeSpec := { name := "fnExactCircuitTable", fn := fun _ => fun
  | [d1, d2] => { results := [.lit (.bool false)], args := [d1, d2] }
  | _ => none }
def FnExactCircuitTableWrongFalsely : Prop := fnExactCircuitTableRow.holds Try.pinned (OpenSpec.ofChange fnExactCircuitTableWrong)

/-- 'laws.FnExactDropUnused': WHATEVER THE INPUT: true; the input reads as it did. -/
def fnExactDropUnusedSpec : ChangeSpec := { name := "fnExactDropUnused", fn := fun _ => fun
  | [d] => { results := [.lit (.bool true)], args := [d] }
  | _ => none }
def fnExactDropUnusedRow : OpenClaim := { program := "ytdhhncmhmfhfpaa", sum := "66bd697cf01723b8d1e15906aee39f2af5747367a30fc70981999b1ade015fa2", func := "loop.example/g00942/laws.FnExactDropUnused", spec := "fnExactDropUnused", apart := false }
def FnExactDropUnusedSaid : Prop := fnExactDropUnusedRow.holds Try.pinned (OpenSpec.ofChange fnExactDropUnusedSpec)

/-- ITS FALSE NEIGHBOUR: 'it returns false'. Refute it at one input. -/
def fnExactDropUnusedWrong : ChangeSpec := { name := "fnExactDropUnused", fn := fun _ => fun
  | [d] => { results := [.lit (.bool false)], args := [d] }
  | _ => none }
def FnExactDropUnusedWrongFalsely : Prop := fnExactDropUnusedRow.holds Try.pinned (OpenSpec.ofChange fnExactDropUnusedWrong)

/-- 'laws.FnExactConstantGates': WHATEVER THE INPUT: true; the input reads as it did. -/
def fnExactConstantGatesSpec : ChangeSpec := { name := "fnExactConstantGates", fn := fun _ => fun
  | [d] => { results := [.lit (.bool true)], args := [d] }
  | _ => none }
def fnExactConstantGatesRow : OpenClaim := { program := "ytdhhncmhmfhfpaa", sum := "66bd697cf01723b8d1e15906aee39f2af5747367a30fc70981999b1ade015fa2", func := "loop.example/g00942/laws.FnExactConstantGates", spec := "fnExactConstantGates", apart := false }
def FnExactConstantGatesSaid : Prop := fnExactConstantGatesRow.holds Try.pinned (OpenSpec.ofChange fnExactConstantGatesSpec)

/-- ITS FALSE NEIGHBOUR: 'it returns false'. Refute it at one input. -/
def fnExactConstantGatesWrong : ChangeSpec := { name := "fnExactConstantGates", fn := fun _ => fun
  | [d] => { results := [.lit (.bool false)], args := [d] }
  | _ => none }
def FnExactConstantGatesWrongFalsely : Prop := fnExactConstantGatesRow.holds Try.pinned (OpenSpec.ofChange fnExactConstantGatesWrong)

/- THE SECOND FORM. 'bulk': how many values and letters a reading holds, each counted each time it is reached (what is shared counts as often as it is met; a slice's spare places count too). A statement '..UptoSaid' is the law's where the arguments, and the package variables that the reading takes, are together of bulk at most 1048576: NARROWER than '..Said'. Prove '..Said' where nothing that the law and all that it calls make is longer than what came in: it says more and counts as full. Else prove '..UptoSaid'. A law counts once. -/
mutual
def uptoBulk {H : Type} : DataW H → Nat
  | .lit (.string bytes) => bytes.length + 1
  | .lit _ => 1
  | .nil => 1
  | .ptr d => uptoBulk d + 1
  | .slice elems spare => uptoBulkAll elems + uptoBulkAll spare + 1
  | .agg parts => uptoBulkAll parts + 1
  | .iface _ d => uptoBulk d + 1
  | .map entries => uptoBulkEntries entries + 1
  | .held _ => 1
def uptoBulkAll {H : Type} : List (DataW H) → Nat
  | [] => 0
  | d :: r => uptoBulk d + uptoBulkAll r
def uptoBulkEntries {H : Type} : List (Lit × DataW H) → Nat
  | [] => 0
  | x :: r => uptoBulkEntry x + uptoBulkEntries r
def uptoBulkEntry {H : Type} : Lit × DataW H → Nat
  | (.string bytes, d) => bytes.length + uptoBulk d + 1
  | (_, d) => uptoBulk d + 1
 end
def uptoSmall : (H : Type) → List (DataW H) → Bool := fun _ ds => decide (uptoBulkAll ds ≤ 1048576)
def OpenSpec.upto (s : _root_.Go.ChangeSpec) : _root_.Go.OpenSpec := { _root_.Go.OpenSpec.ofChange s with cond := some uptoSmall }

/-- 'laws.FnExactLevelsOf', WHERE WHAT IT READS IS OF BULK AT MOST 1048576: true; the input reads as it did. -/
def fnExactLevelsOfUptoRow : OpenClaim := { program := "ytdhhncmhmfhfpaa", sum := "66bd697cf01723b8d1e15906aee39f2af5747367a30fc70981999b1ade015fa2", func := "loop.example/g00942/laws.FnExactLevelsOf", spec := "fnExactLevelsOf", apart := false, narrowed := true }
def FnExactLevelsOfUptoSaid : Prop := fnExactLevelsOfUptoRow.holds Try.pinned (OpenSpec.upto fnExactLevelsOfSpec)

/-- 'laws.FnExactCountLeastSums', WHERE WHAT IT READS IS OF BULK AT MOST 1048576: true; the input reads as it did. -/
def fnExactCountLeastSumsUptoRow : OpenClaim := { program := "ytdhhncmhmfhfpaa", sum := "66bd697cf01723b8d1e15906aee39f2af5747367a30fc70981999b1ade015fa2", func := "loop.example/g00942/laws.FnExactCountLeastSums", spec := "fnExactCountLeastSums", unfollowed := true, recurses := true, apart := false, narrowed := true }
def FnExactCountLeastSumsUptoSaid : Prop := fnExactCountLeastSumsUptoRow.holds Try.pinned (OpenSpec.upto fnExactCountLeastSumsSpec)

/-- 'laws.FnExactTermCircuit', WHERE WHAT IT READS IS OF BULK AT MOST 1048576: true; the input reads as it did. -/
def fnExactTermCircuitUptoRow : OpenClaim := { program := "ytdhhncmhmfhfpaa", sum := "66bd697cf01723b8d1e15906aee39f2af5747367a30fc70981999b1ade015fa2", func := "loop.example/g00942/laws.FnExactTermCircuit", spec := "fnExactTermCircuit", unfollowed := true, recurses := true, apart := false, narrowed := true }
def FnExactTermCircuitUptoSaid : Prop := fnExactTermCircuitUptoRow.holds Try.pinned (OpenSpec.upto fnExactTermCircuitSpec)

/-- 'laws.FnExactCircuitTable', WHERE WHAT IT READS IS OF BULK AT MOST 1048576: true; the input reads as it did. -/
def fnExactCircuitTableUptoRow : OpenClaim := { program := "ytdhhncmhmfhfpaa", sum := "66bd697cf01723b8d1e15906aee39f2af5747367a30fc70981999b1ade015fa2", func := "loop.example/g00942/laws.FnExactCircuitTable", spec := "fnExactCircuitTable", apart := false, narrowed := true }
def FnExactCircuitTableUptoSaid : Prop := fnExactCircuitTableUptoRow.holds Try.pinned (OpenSpec.upto fnExactCircuitTableSpec)

/-- 'laws.FnExactDropUnused', WHERE WHAT IT READS IS OF BULK AT MOST 1048576: true; the input reads as it did. -/
def fnExactDropUnusedUptoRow : OpenClaim := { program := "ytdhhncmhmfhfpaa", sum := "66bd697cf01723b8d1e15906aee39f2af5747367a30fc70981999b1ade015fa2", func := "loop.example/g00942/laws.FnExactDropUnused", spec := "fnExactDropUnused", apart := false, narrowed := true }
def FnExactDropUnusedUptoSaid : Prop := fnExactDropUnusedUptoRow.holds Try.pinned (OpenSpec.upto fnExactDropUnusedSpec)

/-- 'laws.FnExactConstantGates', WHERE WHAT IT READS IS OF BULK AT MOST 1048576: true; the input reads as it did. -/
def fnExactConstantGatesUptoRow : OpenClaim := { program := "ytdhhncmhmfhfpaa", sum := "66bd697cf01723b8d1e15906aee39f2af5747367a30fc70981999b1ade015fa2", func := "loop.example/g00942/laws.FnExactConstantGates", spec := "fnExactConstantGates", apart := false, narrowed := true }
def FnExactConstantGatesUptoSaid : Prop := fnExactConstantGatesUptoRow.holds Try.pinned (OpenSpec.upto fnExactConstantGatesSpec)

end Rows
end Go.Proofs.Ytdhhncmhmfhfpaa
