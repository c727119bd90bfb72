/- WSized, for the law FnExactLevelWires: only what it uses. Made by wip/gen/slim.py. Conditions: those of each theorem. -/
import Derived.SizedLaws
import Derived.ChangeSlices
namespace Go.Proofs.YtnldkpljchkkbaaW.PrintWords
open Go.ChangeShapes Go.WideShapes
end Go.Proofs.YtnldkpljchkkbaaW.PrintWords
