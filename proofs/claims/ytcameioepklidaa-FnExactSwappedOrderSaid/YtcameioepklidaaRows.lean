/-
  No cell of these rows narrows 'for every input' (looked for: loops, veiled, ifaces, maps, wideKeys, modest, calm, conditions, laid).
  DERIVED. THE GIVEN ROWS OF THIS SEAT. 6 by the template 'for every input the law returns true; each argument reads behind the call as it read before'; 0 by the template 'total and deterministic' (their statements: YtcameioepklidaaTotals.lean).
  GIVEN WITH THE SEED: the statements are not yours to turn. If you find one false, say at which input.
  Laid BY PROGRAM, IN A SANDBOX (cutbox-rows.mjs): the forced cells as the released guide's own fill.sh prints them over the translation 42cf3853b2aba4ef… (all of the seat's roots in one cut). By AI agents, Wed Nov 11 2026. No macro, syntax, notation, axiom, sorry.
-/
import Derived.Test.YtcameioepklidaaChecked
import GoSem.Claim
import GoSem.ClaimJoined
import GoSem.ClaimMapViews
import Derived.JoinedTies
import Derived.KernelRfl
namespace Go.Proofs.Ytcameioepklidaa
/- THE CELL 'sum', in the pinned program and in every row, IS THE sha256 OF THE DUMP (.gsa) THAT YtcameioepklidaaProg.lean LOADS. Nothing in Lean hashes anything: it is a label: what it is worth is what the hold of that sum in a sandbox is worth. -/
noncomputable def Try.pinned : Pinned := { name := "ytcameioepklidaa", sum := "42cf3853b2aba4ef5455642e5b9b60d3f02d7940717af32bd686657208d2690c", checked := Try.checked }
namespace Rows
def none {H : Type} : Left H := { results := [], args := [] }

/-- 'laws.FnExactCountWords': WHATEVER THE INPUT: true; the input reads as it did. -/
def fnExactCountWordsSpec : ChangeSpec := { name := "fnExactCountWords", fn := fun _ => fun
  | [d1, d2] => { results := [.lit (.bool true)], args := [d1, d2] }
  | _ => none }
def fnExactCountWordsRow : OpenClaim := { program := "ytcameioepklidaa", sum := "42cf3853b2aba4ef5455642e5b9b60d3f02d7940717af32bd686657208d2690c", func := "loop.example/g00942/laws.FnExactCountWords", spec := "fnExactCountWords", apart := false }
def FnExactCountWordsSaid : Prop := fnExactCountWordsRow.holds Try.pinned (OpenSpec.ofChange fnExactCountWordsSpec)

/-- ITS FALSE NEIGHBOUR: 'it returns false'. Refute it at one input. -/
def fnExactCountWordsWrong : ChangeSpec := { name := "fnExactCountWords", fn := fun _ => fun
  | [d1, d2] => { results := [.lit (.bool false)], args := [d1, d2] }
  | _ => none }
def FnExactCountWordsWrongFalsely : Prop := fnExactCountWordsRow.holds Try.pinned (OpenSpec.ofChange fnExactCountWordsWrong)

/-- 'laws.FnExactSwappedOrder': WHATEVER THE INPUT: true; the input reads as it did. -/
def fnExactSwappedOrderSpec : ChangeSpec := { name := "fnExactSwappedOrder", fn := fun _ => fun
  | [d1, d2] => { results := [.lit (.bool true)], args := [d1, d2] }
  | _ => none }
def fnExactSwappedOrderRow : OpenClaim := { program := "ytcameioepklidaa", sum := "42cf3853b2aba4ef5455642e5b9b60d3f02d7940717af32bd686657208d2690c", func := "loop.example/g00942/laws.FnExactSwappedOrder", spec := "fnExactSwappedOrder", apart := false }
def FnExactSwappedOrderSaid : Prop := fnExactSwappedOrderRow.holds Try.pinned (OpenSpec.ofChange fnExactSwappedOrderSpec)

/-- ITS FALSE NEIGHBOUR: 'it returns false'. Refute it at one input. -/
def fnExactSwappedOrderWrong : ChangeSpec := { name := "fnExactSwappedOrder", fn := fun _ => fun
  | [d1, d2] => { results := [.lit (.bool false)], args := [d1, d2] }
  | _ => none }
def FnExactSwappedOrderWrongFalsely : Prop := fnExactSwappedOrderRow.holds Try.pinned (OpenSpec.ofChange fnExactSwappedOrderWrong)

/-- 'laws.FnExactRoutingText': WHATEVER THE INPUT: true; the input reads as it did. -/
def fnExactRoutingTextSpec : ChangeSpec := { name := "fnExactRoutingText", fn := fun _ => fun
  | [d1, d2] => { results := [.lit (.bool true)], args := [d1, d2] }
  | _ => none }
def fnExactRoutingTextRow : OpenClaim := { program := "ytcameioepklidaa", sum := "42cf3853b2aba4ef5455642e5b9b60d3f02d7940717af32bd686657208d2690c", func := "loop.example/g00942/laws.FnExactRoutingText", spec := "fnExactRoutingText", apart := false }
def FnExactRoutingTextSaid : Prop := fnExactRoutingTextRow.holds Try.pinned (OpenSpec.ofChange fnExactRoutingTextSpec)

/-- ITS FALSE NEIGHBOUR: 'it returns false'. Refute it at one input. -/
def fnExactRoutingTextWrong : ChangeSpec := { name := "fnExactRoutingText", fn := fun _ => fun
  | [d1, d2] => { results := [.lit (.bool false)], args := [d1, d2] }
  | _ => none }
def FnExactRoutingTextWrongFalsely : Prop := fnExactRoutingTextRow.holds Try.pinned (OpenSpec.ofChange fnExactRoutingTextWrong)

/-- 'laws.FnExactGateDepths': WHATEVER THE INPUT: true; the input reads as it did. -/
def fnExactGateDepthsSpec : ChangeSpec := { name := "fnExactGateDepths", fn := fun _ => fun
  | [d] => { results := [.lit (.bool true)], args := [d] }
  | _ => none }
def fnExactGateDepthsRow : OpenClaim := { program := "ytcameioepklidaa", sum := "42cf3853b2aba4ef5455642e5b9b60d3f02d7940717af32bd686657208d2690c", func := "loop.example/g00942/laws.FnExactGateDepths", spec := "fnExactGateDepths", apart := false }
def FnExactGateDepthsSaid : Prop := fnExactGateDepthsRow.holds Try.pinned (OpenSpec.ofChange fnExactGateDepthsSpec)

/-- ITS FALSE NEIGHBOUR: 'it returns false'. Refute it at one input. -/
def fnExactGateDepthsWrong : ChangeSpec := { name := "fnExactGateDepths", fn := fun _ => fun
  | [d] => { results := [.lit (.bool false)], args := [d] }
  | _ => none }
def FnExactGateDepthsWrongFalsely : Prop := fnExactGateDepthsRow.holds Try.pinned (OpenSpec.ofChange fnExactGateDepthsWrong)

/-- 'laws.FnExactFanOuts': WHATEVER THE INPUT: true; the input reads as it did. -/
def fnExactFanOutsSpec : ChangeSpec := { name := "fnExactFanOuts", fn := fun _ => fun
  | [d] => { results := [.lit (.bool true)], args := [d] }
  | _ => none }
def fnExactFanOutsRow : OpenClaim := { program := "ytcameioepklidaa", sum := "42cf3853b2aba4ef5455642e5b9b60d3f02d7940717af32bd686657208d2690c", func := "loop.example/g00942/laws.FnExactFanOuts", spec := "fnExactFanOuts", apart := false }
def FnExactFanOutsSaid : Prop := fnExactFanOutsRow.holds Try.pinned (OpenSpec.ofChange fnExactFanOutsSpec)

/-- ITS FALSE NEIGHBOUR: 'it returns false'. Refute it at one input. -/
def fnExactFanOutsWrong : ChangeSpec := { name := "fnExactFanOuts", fn := fun _ => fun
  | [d] => { results := [.lit (.bool false)], args := [d] }
  | _ => none }
def FnExactFanOutsWrongFalsely : Prop := fnExactFanOutsRow.holds Try.pinned (OpenSpec.ofChange fnExactFanOutsWrong)

/-- 'laws.FnExactPrimeTerms': WHATEVER THE INPUT: true; the input reads as it did. -/
def fnExactPrimeTermsSpec : ChangeSpec := { name := "fnExactPrimeTerms", fn := fun _ => fun
  | [d] => { results := [.lit (.bool true)], args := [d] }
  | _ => none }
def fnExactPrimeTermsRow : OpenClaim := { program := "ytcameioepklidaa", sum := "42cf3853b2aba4ef5455642e5b9b60d3f02d7940717af32bd686657208d2690c", func := "loop.example/g00942/laws.FnExactPrimeTerms", spec := "fnExactPrimeTerms", apart := false }
def FnExactPrimeTermsSaid : Prop := fnExactPrimeTermsRow.holds Try.pinned (OpenSpec.ofChange fnExactPrimeTermsSpec)

/-- ITS FALSE NEIGHBOUR: 'it returns false'. Refute it at one input. -/
def fnExactPrimeTermsWrong : ChangeSpec := { name := "fnExactPrimeTerms", fn := fun _ => fun
  | [d] => { results := [.lit (.bool false)], args := [d] }
  | _ => none }
def FnExactPrimeTermsWrongFalsely : Prop := fnExactPrimeTermsRow.holds Try.pinned (OpenSpec.ofChange fnExactPrimeTermsWrong)

/- THE SECOND FORM. 'bulk': how many values and letters a reading holds, each counted each time it is reached (what is shared counts as often as it is met; a slice's spare places count too). A statement '..UptoSaid' is the law's where the arguments, and the package variables that the reading takes, are together of bulk at most 1048576: NARROWER than '..Said'. Prove '..Said' where nothing that the law and all that it calls make is longer than what came in: it says more and counts as full. Else prove '..UptoSaid'. A law counts once. -/
mutual
def uptoBulk {H : Type} : DataW H → Nat
  | .lit (.string bytes) => bytes.length + 1
  | .lit _ => 1
  | .nil => 1
  | .ptr d => uptoBulk d + 1
  | .slice elems spare => uptoBulkAll elems + uptoBulkAll spare + 1
  | .agg parts => uptoBulkAll parts + 1
  | .iface _ d => uptoBulk d + 1
  | .map entries => uptoBulkEntries entries + 1
  | .held _ => 1
def uptoBulkAll {H : Type} : List (DataW H) → Nat
  | [] => 0
  | d :: r => uptoBulk d + uptoBulkAll r
def uptoBulkEntries {H : Type} : List (Lit × DataW H) → Nat
  | [] => 0
  | x :: r => uptoBulkEntry x + uptoBulkEntries r
def uptoBulkEntry {H : Type} : Lit × DataW H → Nat
  | (.string bytes, d) => bytes.length + uptoBulk d + 1
  | (_, d) => uptoBulk d + 1
 end
def uptoSmall : (H : Type) → List (DataW H) → Bool := fun _ ds => decide (uptoBulkAll ds ≤ 1048576)
def OpenSpec.upto (s : _root_.Go.ChangeSpec) : _root_.Go.OpenSpec := { _root_.Go.OpenSpec.ofChange s with cond := some uptoSmall }

/-- 'laws.FnExactCountWords', WHERE WHAT IT READS IS OF BULK AT MOST 1048576: true; the input reads as it did. -/
def fnExactCountWordsUptoRow : OpenClaim := { program := "ytcameioepklidaa", sum := "42cf3853b2aba4ef5455642e5b9b60d3f02d7940717af32bd686657208d2690c", func := "loop.example/g00942/laws.FnExactCountWords", spec := "fnExactCountWords", apart := false, narrowed := true }
def FnExactCountWordsUptoSaid : Prop := fnExactCountWordsUptoRow.holds Try.pinned (OpenSpec.upto fnExactCountWordsSpec)

/-- 'laws.FnExactSwappedOrder', WHERE WHAT IT READS IS OF BULK AT MOST 1048576: true; the input reads as it did. -/
def fnExactSwappedOrderUptoRow : OpenClaim := { program := "ytcameioepklidaa", sum := "42cf3853b2aba4ef5455642e5b9b60d3f02d7940717af32bd686657208d2690c", func := "loop.example/g00942/laws.FnExactSwappedOrder", spec := "fnExactSwappedOrder", apart := false, narrowed := true }
def FnExactSwappedOrderUptoSaid : Prop := fnExactSwappedOrderUptoRow.holds Try.pinned (OpenSpec.upto fnExactSwappedOrderSpec)

/-- 'laws.FnExactRoutingText', WHERE WHAT IT READS IS OF BULK AT MOST 1048576: true; the input reads as it did. -/
def fnExactRoutingTextUptoRow : OpenClaim := { program := "ytcameioepklidaa", sum := "42cf3853b2aba4ef5455642e5b9b60d3f02d7940717af32bd686657208d2690c", func := "loop.example/g00942/laws.FnExactRoutingText", spec := "fnExactRoutingText", apart := false, narrowed := true }
def FnExactRoutingTextUptoSaid : Prop := fnExactRoutingTextUptoRow.holds Try.pinned (OpenSpec.upto fnExactRoutingTextSpec)

/-- 'laws.FnExactGateDepths', WHERE WHAT IT READS IS OF BULK AT MOST 1048576: true; the input reads as it did. -/
def fnExactGateDepthsUptoRow : OpenClaim := { program := "ytcameioepklidaa", sum := "42cf3853b2aba4ef5455642e5b9b60d3f02d7940717af32bd686657208d2690c", func := "loop.example/g00942/laws.FnExactGateDepths", spec := "fnExactGateDepths", apart := false, narrowed := true }
def FnExactGateDepthsUptoSaid : Prop := fnExactGateDepthsUptoRow.holds Try.pinned (OpenSpec.upto fnExactGateDepthsSpec)

/-- 'laws.FnExactFanOuts', WHERE WHAT IT READS IS OF BULK AT MOST 1048576: true; the input reads as it did. -/
def fnExactFanOutsUptoRow : OpenClaim := { program := "ytcameioepklidaa", sum := "42cf3853b2aba4ef5455642e5b9b60d3f02d7940717af32bd686657208d2690c", func := "loop.example/g00942/laws.FnExactFanOuts", spec := "fnExactFanOuts", apart := false, narrowed := true }
def FnExactFanOutsUptoSaid : Prop := fnExactFanOutsUptoRow.holds Try.pinned (OpenSpec.upto fnExactFanOutsSpec)

/-- 'laws.FnExactPrimeTerms', WHERE WHAT IT READS IS OF BULK AT MOST 1048576: true; the input reads as it did. -/
def fnExactPrimeTermsUptoRow : OpenClaim := { program := "ytcameioepklidaa", sum := "42cf3853b2aba4ef5455642e5b9b60d3f02d7940717af32bd686657208d2690c", func := "loop.example/g00942/laws.FnExactPrimeTerms", spec := "fnExactPrimeTerms", apart := false, narrowed := true }
def FnExactPrimeTermsUptoSaid : Prop := fnExactPrimeTermsUptoRow.holds Try.pinned (OpenSpec.upto fnExactPrimeTermsSpec)

end Rows
end Go.Proofs.Ytcameioepklidaa
