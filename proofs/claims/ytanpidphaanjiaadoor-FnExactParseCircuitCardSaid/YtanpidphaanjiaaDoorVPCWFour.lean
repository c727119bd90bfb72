/- What FnExactParseCircuit uses of WFour. -/
import Derived.Test.YtanpidphaanjiaaDoorVPCWTab
namespace Go.Proofs.YtanpidphaanjiaaDoorW.PrintLast
section
variable {P:Program} {ops:Array Oper} {Q:Exit→Act→World→Prop} {md:Region.Mode} {S:World→Prop} {ds:List Nat} {T:Bool×List (List Nat×List Nat)}
end
end Go.Proofs.YtanpidphaanjiaaDoorW.PrintLast
