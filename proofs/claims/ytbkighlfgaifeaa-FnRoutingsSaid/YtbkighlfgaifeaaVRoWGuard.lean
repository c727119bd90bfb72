/- WGuard, for the law FnRoutings: only what it uses. Made by wip/gen/slim.py. Conditions: those of each theorem. -/
import Derived.Test.YtbkighlfgaifeaaVRoWWords
namespace Go.Proofs.YtbkighlfgaifeaaW.PrintWords
open Go.RowKit
section
variable {P : Program} {ops : Array Oper} {rest : List Oper} {o : Oper} {a : Act} {Q : Exit → Act → World → Prop} {W : World}
end
end Go.Proofs.YtbkighlfgaifeaaW.PrintWords
