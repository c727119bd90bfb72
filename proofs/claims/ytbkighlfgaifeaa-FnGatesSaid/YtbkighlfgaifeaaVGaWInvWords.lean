/- What FnGates uses of WInvWords. -/
import Derived.Test.YtbkighlfgaifeaaVGaWInv
import Derived.Test.YtbkighlfgaifeaaVGaWFootNe
namespace Go.Proofs.YtbkighlfgaifeaaW.PrintWords
open Go.RowKit
end Go.Proofs.YtbkighlfgaifeaaW.PrintWords
namespace Go.Proofs.YtbkighlfgaifeaaW.PrintLast
section
variable {ops : Array Oper} {a : Act} {o og : Oper} {g : Nat} {t : Tmp} {u : Bool}
end
end Go.Proofs.YtbkighlfgaifeaaW.PrintLast
