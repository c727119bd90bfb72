/- What FnLevels uses of WInvWords. -/
import Derived.Test.YtlnhpkjioppbiaaVLeWInv
import Derived.Test.YtlnhpkjioppbiaaVLeWFootNe
namespace Go.Proofs.YtlnhpkjioppbiaaW.PrintWords
open Go.RowKit
end Go.Proofs.YtlnhpkjioppbiaaW.PrintWords
namespace Go.Proofs.YtlnhpkjioppbiaaW.PrintLast
section
variable {ops : Array Oper} {a : Act} {o og : Oper} {g : Nat} {t : Tmp} {u : Bool}
end
end Go.Proofs.YtlnhpkjioppbiaaW.PrintLast
