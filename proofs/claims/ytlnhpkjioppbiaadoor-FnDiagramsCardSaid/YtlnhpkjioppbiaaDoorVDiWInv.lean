/- What FnDiagrams uses of WInv. -/
import Derived.Test.YtlnhpkjioppbiaaDoorVDiWTab
namespace Go.Proofs.YtlnhpkjioppbiaaDoorW.PrintLast
section
variable {P:Program} {ops:Array Oper} {Q:Exit→Act→World→Prop} {md:Region.Mode} {T:Bool×List (List Nat×List Nat)} {B:List Nat} {O:List Nat} {b:Nat→Bool} {i j n:Nat}
end
end Go.Proofs.YtlnhpkjioppbiaaDoorW.PrintLast
