/- What FnDiagrams uses of Open. -/
import Derived.Test.YtlnhpkjioppbiaaDoorVDiWSized
import Derived.Test.YtlnhpkjioppbiaaDoorVDiWMore
import Derived.ChangeArms
import Derived.DataReads
import Derived.Carry
import Derived.Lib.SmallJoins
namespace Go.Proofs.YtlnhpkjioppbiaaDoor.Open
open Go.ChangeShapes Go.WideShapes Go.RowKit Go.Proofs.YtlnhpkjioppbiaaDoorW.PrintWords
structure Opens {α:Type} (P:Program) (d:Kd α) (t:TypeId) (Q:α→Prop):Prop where
 get:∀ {H:Type} {enc:TypeId×Value→H} {w:World} {fuel:Nat} {cs:List Value} {x:DataW H×List MemPlace},DataW.trod enc P w 0 (fun _=>true) true fuel t cs=some x→∃ a,d.K w a cs∧Q a
 size:P.cellsOf t=d.sz
end Go.Proofs.YtlnhpkjioppbiaaDoor.Open
