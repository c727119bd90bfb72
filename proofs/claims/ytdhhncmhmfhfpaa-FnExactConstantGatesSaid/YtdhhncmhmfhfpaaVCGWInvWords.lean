/- WInvWords, for the law FnExactConstantGates: only what it uses. Made by wip/gen/slim.py. Conditions: those of each theorem. -/
import Derived.Test.YtdhhncmhmfhfpaaVCGWInv
import Derived.Test.YtdhhncmhmfhfpaaVCGWFootNe
namespace Go.Proofs.YtdhhncmhmfhfpaaW.PrintWords
open Go.RowKit
end Go.Proofs.YtdhhncmhmfhfpaaW.PrintWords
namespace Go.Proofs.YtdhhncmhmfhfpaaW.PrintLast
section
variable {ops : Array Oper} {a : Act} {o og : Oper} {g : Nat} {t : Tmp} {u : Bool}
end
end Go.Proofs.YtdhhncmhmfhfpaaW.PrintLast
