/- What FnExactCombineDiagrams uses of WSized. -/
import Derived.SizedLaws
import Derived.ChangeSlices
namespace Go.Proofs.YtlnhpkjioppbiaaW.PrintWords
open Go.ChangeShapes Go.WideShapes
end Go.Proofs.YtlnhpkjioppbiaaW.PrintWords
