/-
  No cell of these rows narrows 'for every input' (looked for: loops, veiled, ifaces, maps, wideKeys, modest, calm, conditions, laid).
  DERIVED. THE GIVEN ROWS OF THIS SEAT. 6 by the template 'for every input the law returns true; each argument reads behind the call as it read before'; 0 by the template 'total and deterministic' (their statements: YtjoenfdnhikalaaTotals.lean).
  GIVEN WITH THE SEED: the statements are not yours to turn. If you find one false, say at which input.
  Laid BY PROGRAM, IN A SANDBOX (cutbox-rows.mjs): the forced cells as the released guide's own fill.sh prints them over the translation 42eef67bf85288d8… (all of the seat's roots in one cut). By AI agents, Wed Nov 11 2026. No macro, syntax, notation, axiom, sorry.
-/
import Derived.Test.YtjoenfdnhikalaaChecked
import GoSem.Claim
import GoSem.ClaimJoined
import GoSem.ClaimMapViews
import Derived.JoinedTies
import Derived.KernelRfl
namespace Go.Proofs.Ytjoenfdnhikalaa
/- THE CELL 'sum', in the pinned program and in every row, IS THE sha256 OF THE DUMP (.gsa) THAT YtjoenfdnhikalaaProg.lean LOADS. Nothing in Lean hashes anything: it is a label: what it is worth is what the hold of that sum in a sandbox is worth. -/
noncomputable def Try.pinned : Pinned := { name := "ytjoenfdnhikalaa", sum := "42eef67bf85288d89739788258e9748a4df14a4a73033a1f62ae6f7cf61de7c4", checked := Try.checked }
namespace Rows
def none {H : Type} : Left H := { results := [], args := [] }

/-- 'laws.FnExactIsTerm': WHATEVER THE INPUT: true; the input reads as it did. -/
def fnExactIsTermSpec : ChangeSpec := { name := "fnExactIsTerm", fn := fun _ => fun
  | [d1, d2] => { results := [.lit (.bool true)], args := [d1, d2] }
  | _ => none }
def fnExactIsTermRow : OpenClaim := { program := "ytjoenfdnhikalaa", sum := "42eef67bf85288d89739788258e9748a4df14a4a73033a1f62ae6f7cf61de7c4", func := "loop.example/g00942/laws.FnExactIsTerm", spec := "fnExactIsTerm", apart := false }
def FnExactIsTermSaid : Prop := fnExactIsTermRow.holds Try.pinned (OpenSpec.ofChange fnExactIsTermSpec)

/-- ITS FALSE NEIGHBOUR: 'it returns false'. Refute it at one input. -/
def fnExactIsTermWrong : ChangeSpec := { name := "fnExactIsTerm", fn := fun _ => fun
  | [d1, d2] => { results := [.lit (.bool false)], args := [d1, d2] }
  | _ => none }
def FnExactIsTermWrongFalsely : Prop := fnExactIsTermRow.holds Try.pinned (OpenSpec.ofChange fnExactIsTermWrong)

/-- 'laws.FnExactReadTerm': WHATEVER THE INPUT: true; the input reads as it did. -/
def fnExactReadTermSpec : ChangeSpec := { name := "fnExactReadTerm", fn := fun _ => fun
  | [d] => { results := [.lit (.bool true)], args := [d] }
  | _ => none }
def fnExactReadTermRow : OpenClaim := { program := "ytjoenfdnhikalaa", sum := "42eef67bf85288d89739788258e9748a4df14a4a73033a1f62ae6f7cf61de7c4", func := "loop.example/g00942/laws.FnExactReadTerm", spec := "fnExactReadTerm", apart := false }
def FnExactReadTermSaid : Prop := fnExactReadTermRow.holds Try.pinned (OpenSpec.ofChange fnExactReadTermSpec)

/-- ITS FALSE NEIGHBOUR: 'it returns false'. Refute it at one input. -/
def fnExactReadTermWrong : ChangeSpec := { name := "fnExactReadTerm", fn := fun _ => fun
  | [d] => { results := [.lit (.bool false)], args := [d] }
  | _ => none }
def FnExactReadTermWrongFalsely : Prop := fnExactReadTermRow.holds Try.pinned (OpenSpec.ofChange fnExactReadTermWrong)

/-- 'laws.FnExactTermText': WHATEVER THE INPUT: true; the input reads as it did. -/
def fnExactTermTextSpec : ChangeSpec := { name := "fnExactTermText", fn := fun _ => fun
  | [d1, d2] => { results := [.lit (.bool true)], args := [d1, d2] }
  | _ => none }
def fnExactTermTextRow : OpenClaim := { program := "ytjoenfdnhikalaa", sum := "42eef67bf85288d89739788258e9748a4df14a4a73033a1f62ae6f7cf61de7c4", func := "loop.example/g00942/laws.FnExactTermText", spec := "fnExactTermText", recurses := true, apart := false }
def FnExactTermTextSaid : Prop := fnExactTermTextRow.holds Try.pinned (OpenSpec.ofChange fnExactTermTextSpec)

/-- ITS FALSE NEIGHBOUR: 'it returns false'. Refute it at one input. -/
def fnExactTermTextWrong : ChangeSpec := { name := "fnExactTermText", fn := fun _ => fun
  | [d1, d2] => { results := [.lit (.bool false)], args := [d1, d2] }
  | _ => none }
def FnExactTermTextWrongFalsely : Prop := fnExactTermTextRow.holds Try.pinned (OpenSpec.ofChange fnExactTermTextWrong)

/-- 'laws.FnExactAreChannelWires': WHATEVER THE INPUT: true; the input reads as it did. -/
def fnExactAreChannelWiresSpec : ChangeSpec := { name := "fnExactAreChannelWires", fn := fun _ => fun
  | [d] => { results := [.lit (.bool true)], args := [d] }
  | _ => none }
def fnExactAreChannelWiresRow : OpenClaim := { program := "ytjoenfdnhikalaa", sum := "42eef67bf85288d89739788258e9748a4df14a4a73033a1f62ae6f7cf61de7c4", func := "loop.example/g00942/laws.FnExactAreChannelWires", spec := "fnExactAreChannelWires", apart := false }
def FnExactAreChannelWiresSaid : Prop := fnExactAreChannelWiresRow.holds Try.pinned (OpenSpec.ofChange fnExactAreChannelWiresSpec)

/-- ITS FALSE NEIGHBOUR: 'it returns false'. Refute it at one input. -/
def fnExactAreChannelWiresWrong : ChangeSpec := { name := "fnExactAreChannelWires", fn := fun _ => fun
  | [d] => { results := [.lit (.bool false)], args := [d] }
  | _ => none }
def FnExactAreChannelWiresWrongFalsely : Prop := fnExactAreChannelWiresRow.holds Try.pinned (OpenSpec.ofChange fnExactAreChannelWiresWrong)

/-- 'laws.FnExactTermIndices': WHATEVER THE INPUT: true; the input reads as it did. -/
def fnExactTermIndicesSpec : ChangeSpec := { name := "fnExactTermIndices", fn := fun _ => fun
  | [d1, d2] => { results := [.lit (.bool true)], args := [d1, d2] }
  | _ => none }
def fnExactTermIndicesRow : OpenClaim := { program := "ytjoenfdnhikalaa", sum := "42eef67bf85288d89739788258e9748a4df14a4a73033a1f62ae6f7cf61de7c4", func := "loop.example/g00942/laws.FnExactTermIndices", spec := "fnExactTermIndices", apart := false }
def FnExactTermIndicesSaid : Prop := fnExactTermIndicesRow.holds Try.pinned (OpenSpec.ofChange fnExactTermIndicesSpec)

/-- ITS FALSE NEIGHBOUR: 'it returns false'. Refute it at one input. -/
def fnExactTermIndicesWrong : ChangeSpec := { name := "fnExactTermIndices", fn := fun _ => fun
  | [d1, d2] => { results := [.lit (.bool false)], args := [d1, d2] }
  | _ => none }
def FnExactTermIndicesWrongFalsely : Prop := fnExactTermIndicesRow.holds Try.pinned (OpenSpec.ofChange fnExactTermIndicesWrong)

/-- 'laws.FnExactAreLevelWires': WHATEVER THE INPUT: true; the input reads as it did. -/
def fnExactAreLevelWiresSpec : ChangeSpec := { name := "fnExactAreLevelWires", fn := fun _ => fun
  | [d1, d2] => { results := [.lit (.bool true)], args := [d1, d2] }
  | _ => none }
def fnExactAreLevelWiresRow : OpenClaim := { program := "ytjoenfdnhikalaa", sum := "42eef67bf85288d89739788258e9748a4df14a4a73033a1f62ae6f7cf61de7c4", func := "loop.example/g00942/laws.FnExactAreLevelWires", spec := "fnExactAreLevelWires", apart := false }
def FnExactAreLevelWiresSaid : Prop := fnExactAreLevelWiresRow.holds Try.pinned (OpenSpec.ofChange fnExactAreLevelWiresSpec)

/-- ITS FALSE NEIGHBOUR: 'it returns false'. Refute it at one input. -/
def fnExactAreLevelWiresWrong : ChangeSpec := { name := "fnExactAreLevelWires", fn := fun _ => fun
  | [d1, d2] => { results := [.lit (.bool false)], args := [d1, d2] }
  | _ => none }
def FnExactAreLevelWiresWrongFalsely : Prop := fnExactAreLevelWiresRow.holds Try.pinned (OpenSpec.ofChange fnExactAreLevelWiresWrong)

/- THE SECOND FORM. 'bulk': how many values and letters a reading holds, each counted each time it is reached (what is shared counts as often as it is met; a slice's spare places count too). A statement '..UptoSaid' is the law's where the arguments, and the package variables that the reading takes, are together of bulk at most 1048576: NARROWER than '..Said'. Prove '..Said' where nothing that the law and all that it calls make is longer than what came in: it says more and counts as full. Else prove '..UptoSaid'. A law counts once. -/
mutual
def uptoBulk {H : Type} : DataW H → Nat
  | .lit (.string bytes) => bytes.length + 1
  | .lit _ => 1
  | .nil => 1
  | .ptr d => uptoBulk d + 1
  | .slice elems spare => uptoBulkAll elems + uptoBulkAll spare + 1
  | .agg parts => uptoBulkAll parts + 1
  | .iface _ d => uptoBulk d + 1
  | .map entries => uptoBulkEntries entries + 1
  | .held _ => 1
def uptoBulkAll {H : Type} : List (DataW H) → Nat
  | [] => 0
  | d :: r => uptoBulk d + uptoBulkAll r
def uptoBulkEntries {H : Type} : List (Lit × DataW H) → Nat
  | [] => 0
  | x :: r => uptoBulkEntry x + uptoBulkEntries r
def uptoBulkEntry {H : Type} : Lit × DataW H → Nat
  | (.string bytes, d) => bytes.length + uptoBulk d + 1
  | (_, d) => uptoBulk d + 1
 end
def uptoSmall : (H : Type) → List (DataW H) → Bool := fun _ ds => decide (uptoBulkAll ds ≤ 1048576)
def OpenSpec.upto (s : _root_.Go.ChangeSpec) : _root_.Go.OpenSpec := { _root_.Go.OpenSpec.ofChange s with cond := some uptoSmall }

/-- 'laws.FnExactIsTerm', WHERE WHAT IT READS IS OF BULK AT MOST 1048576: true; the input reads as it did. -/
def fnExactIsTermUptoRow : OpenClaim := { program := "ytjoenfdnhikalaa", sum := "42eef67bf85288d89739788258e9748a4df14a4a73033a1f62ae6f7cf61de7c4", func := "loop.example/g00942/laws.FnExactIsTerm", spec := "fnExactIsTerm", apart := false, narrowed := true }
def FnExactIsTermUptoSaid : Prop := fnExactIsTermUptoRow.holds Try.pinned (OpenSpec.upto fnExactIsTermSpec)

/-- 'laws.FnExactReadTerm', WHERE WHAT IT READS IS OF BULK AT MOST 1048576: true; the input reads as it did. -/
def fnExactReadTermUptoRow : OpenClaim := { program := "ytjoenfdnhikalaa", sum := "42eef67bf85288d89739788258e9748a4df14a4a73033a1f62ae6f7cf61de7c4", func := "loop.example/g00942/laws.FnExactReadTerm", spec := "fnExactReadTerm", apart := false, narrowed := true }
def FnExactReadTermUptoSaid : Prop := fnExactReadTermUptoRow.holds Try.pinned (OpenSpec.upto fnExactReadTermSpec)

/-- 'laws.FnExactTermText', WHERE WHAT IT READS IS OF BULK AT MOST 1048576: true; the input reads as it did. -/
def fnExactTermTextUptoRow : OpenClaim := { program := "ytjoenfdnhikalaa", sum := "42eef67bf85288d89739788258e9748a4df14a4a73033a1f62ae6f7cf61de7c4", func := "loop.example/g00942/laws.FnExactTermText", spec := "fnExactTermText", recurses := true, apart := false, narrowed := true }
def FnExactTermTextUptoSaid : Prop := fnExactTermTextUptoRow.holds Try.pinned (OpenSpec.upto fnExactTermTextSpec)

/-- 'laws.FnExactAreChannelWires', WHERE WHAT IT READS IS OF BULK AT MOST 1048576: true; the input reads as it did. -/
def fnExactAreChannelWiresUptoRow : OpenClaim := { program := "ytjoenfdnhikalaa", sum := "42eef67bf85288d89739788258e9748a4df14a4a73033a1f62ae6f7cf61de7c4", func := "loop.example/g00942/laws.FnExactAreChannelWires", spec := "fnExactAreChannelWires", apart := false, narrowed := true }
def FnExactAreChannelWiresUptoSaid : Prop := fnExactAreChannelWiresUptoRow.holds Try.pinned (OpenSpec.upto fnExactAreChannelWiresSpec)

/-- 'laws.FnExactTermIndices', WHERE WHAT IT READS IS OF BULK AT MOST 1048576: true; the input reads as it did. -/
def fnExactTermIndicesUptoRow : OpenClaim := { program := "ytjoenfdnhikalaa", sum := "42eef67bf85288d89739788258e9748a4df14a4a73033a1f62ae6f7cf61de7c4", func := "loop.example/g00942/laws.FnExactTermIndices", spec := "fnExactTermIndices", apart := false, narrowed := true }
def FnExactTermIndicesUptoSaid : Prop := fnExactTermIndicesUptoRow.holds Try.pinned (OpenSpec.upto fnExactTermIndicesSpec)

/-- 'laws.FnExactAreLevelWires', WHERE WHAT IT READS IS OF BULK AT MOST 1048576: true; the input reads as it did. -/
def fnExactAreLevelWiresUptoRow : OpenClaim := { program := "ytjoenfdnhikalaa", sum := "42eef67bf85288d89739788258e9748a4df14a4a73033a1f62ae6f7cf61de7c4", func := "loop.example/g00942/laws.FnExactAreLevelWires", spec := "fnExactAreLevelWires", apart := false, narrowed := true }
def FnExactAreLevelWiresUptoSaid : Prop := fnExactAreLevelWiresUptoRow.holds Try.pinned (OpenSpec.upto fnExactAreLevelWiresSpec)

end Rows
end Go.Proofs.Ytjoenfdnhikalaa
