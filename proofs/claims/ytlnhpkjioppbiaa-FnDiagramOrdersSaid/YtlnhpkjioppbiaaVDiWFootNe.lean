/- What FnDiagramOrders uses of WFootNe. -/
import Derived.Test.YtlnhpkjioppbiaaVDiWN
namespace Go.Proofs.YtlnhpkjioppbiaaW.PrintWords
open Go.RowKit
namespace Kd
section
variable {α:Type} {d:Kd α} {W:World} {g n:Nat} {S ok:Nat→Prop} {A:Option Addr} {ad:Addr} {xs:List α}
end
end Kd
end Go.Proofs.YtlnhpkjioppbiaaW.PrintWords
