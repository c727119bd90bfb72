/- What FnExactParseCircuit uses of WSized. -/
import Derived.SizedLaws
import Derived.ChangeSlices
namespace Go.Proofs.YtanpidphaanjiaaDoorW.PrintWords
open Go.ChangeShapes Go.WideShapes
end Go.Proofs.YtanpidphaanjiaaDoorW.PrintWords
