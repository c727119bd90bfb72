/- What FnDiagrams uses of WInvWords. -/
import Derived.Test.YtlnhpkjioppbiaaDoorVDiWInv
import Derived.Test.YtlnhpkjioppbiaaDoorVDiWFootNe
namespace Go.Proofs.YtlnhpkjioppbiaaDoorW.PrintWords
open Go.RowKit
end Go.Proofs.YtlnhpkjioppbiaaDoorW.PrintWords
namespace Go.Proofs.YtlnhpkjioppbiaaDoorW.PrintLast
section
variable {ops:Array Oper} {a:Act} {o og:Oper} {g:Nat} {t:Tmp} {u:Bool}
end
end Go.Proofs.YtlnhpkjioppbiaaDoorW.PrintLast
