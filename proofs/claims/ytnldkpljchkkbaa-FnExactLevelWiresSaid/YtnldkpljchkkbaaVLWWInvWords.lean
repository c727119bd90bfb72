/- WInvWords, for the law FnExactLevelWires: only what it uses. Made by wip/gen/slim.py. Conditions: those of each theorem. -/
import Derived.Test.YtnldkpljchkkbaaVLWWInv
import Derived.Test.YtnldkpljchkkbaaVLWWFootNe
namespace Go.Proofs.YtnldkpljchkkbaaW.PrintWords
open Go.RowKit
end Go.Proofs.YtnldkpljchkkbaaW.PrintWords
namespace Go.Proofs.YtnldkpljchkkbaaW.PrintLast
section
variable {ops : Array Oper} {a : Act} {o og : Oper} {g : Nat} {t : Tmp} {u : Bool}
end
end Go.Proofs.YtnldkpljchkkbaaW.PrintLast
