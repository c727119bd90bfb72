/- What FnExactParseCircuit uses of WInvWords. -/
import Derived.Test.YtanpidphaanjiaaDoorVPCWInv
import Derived.Test.YtanpidphaanjiaaDoorVPCWFootNe
namespace Go.Proofs.YtanpidphaanjiaaDoorW.PrintWords
open Go.RowKit
end Go.Proofs.YtanpidphaanjiaaDoorW.PrintWords
namespace Go.Proofs.YtanpidphaanjiaaDoorW.PrintLast
section
variable {ops:Array Oper} {a:Act} {o og:Oper} {g:Nat} {t:Tmp} {u:Bool}
end
end Go.Proofs.YtanpidphaanjiaaDoorW.PrintLast
