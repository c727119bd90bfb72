/- What FnTables uses of WInvWords. -/
import Derived.Test.YtlnhpkjioppbiaaDoorVTaWInv
import Derived.Test.YtlnhpkjioppbiaaDoorVTaWFootNe
namespace Go.Proofs.YtlnhpkjioppbiaaDoorW.PrintWords
open Go.RowKit
end Go.Proofs.YtlnhpkjioppbiaaDoorW.PrintWords
namespace Go.Proofs.YtlnhpkjioppbiaaDoorW.PrintLast
section
variable {ops:Array Oper} {a:Act} {o og:Oper} {g:Nat} {t:Tmp} {u:Bool}
end
end Go.Proofs.YtlnhpkjioppbiaaDoorW.PrintLast
