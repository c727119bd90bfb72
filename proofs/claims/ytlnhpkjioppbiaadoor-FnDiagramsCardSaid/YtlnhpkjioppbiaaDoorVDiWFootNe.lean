/- What FnDiagrams uses of WFootNe. -/
import Derived.Test.YtlnhpkjioppbiaaDoorVDiWN
namespace Go.Proofs.YtlnhpkjioppbiaaDoorW.PrintWords
open Go.RowKit
namespace Kd
section
variable {α:Type} {d:Kd α} {W:World} {g n:Nat} {S ok:Nat→Prop} {A:Option Addr} {ad:Addr} {xs:List α}
end
end Kd
end Go.Proofs.YtlnhpkjioppbiaaDoorW.PrintWords
