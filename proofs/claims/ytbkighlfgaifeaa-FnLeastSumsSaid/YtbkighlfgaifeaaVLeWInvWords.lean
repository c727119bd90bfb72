/- What FnLeastSums uses of WInvWords. -/
import Derived.Test.YtbkighlfgaifeaaVLeWInv
import Derived.Test.YtbkighlfgaifeaaVLeWFootNe
namespace Go.Proofs.YtbkighlfgaifeaaW.PrintWords
open Go.RowKit
end Go.Proofs.YtbkighlfgaifeaaW.PrintWords
namespace Go.Proofs.YtbkighlfgaifeaaW.PrintLast
section
variable {ops : Array Oper} {a : Act} {o og : Oper} {g : Nat} {t : Tmp} {u : Bool}
end
end Go.Proofs.YtbkighlfgaifeaaW.PrintLast
