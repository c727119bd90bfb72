/- What FnDiagramOrders uses of WInvWords. -/
import Derived.Test.YtlnhpkjioppbiaaVDiWInv
import Derived.Test.YtlnhpkjioppbiaaVDiWFootNe
namespace Go.Proofs.YtlnhpkjioppbiaaW.PrintWords
open Go.RowKit
end Go.Proofs.YtlnhpkjioppbiaaW.PrintWords
namespace Go.Proofs.YtlnhpkjioppbiaaW.PrintLast
section
variable {ops:Array Oper} {a:Act} {o og:Oper} {g:Nat} {t:Tmp} {u:Bool}
end
end Go.Proofs.YtlnhpkjioppbiaaW.PrintLast
