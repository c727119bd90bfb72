/- WInvWords, for the law FnPrimes: only what it uses. Made by wip/gen/slim.py. Conditions: those of each theorem. -/
import Derived.Test.YtbkighlfgaifeaaVPrWInv
import Derived.Test.YtbkighlfgaifeaaVPrWFootNe
namespace Go.Proofs.YtbkighlfgaifeaaW.PrintWords
open Go.RowKit
end Go.Proofs.YtbkighlfgaifeaaW.PrintWords
namespace Go.Proofs.YtbkighlfgaifeaaW.PrintLast
section
variable {ops : Array Oper} {a : Act} {o og : Oper} {g : Nat} {t : Tmp} {u : Bool}
end
end Go.Proofs.YtbkighlfgaifeaaW.PrintLast
