import Derived.Test.YtonejnaanklfjaaWInv
import Derived.Test.YtonejnaanklfjaaWFootNe
namespace Go.Proofs.YtonejnaanklfjaaW.PrintWords
open Go.RowKit
end Go.Proofs.YtonejnaanklfjaaW.PrintWords
namespace Go.Proofs.YtonejnaanklfjaaW.PrintLast
section
variable {ops : Array Oper} {a : Act} {o og : Oper} {g : Nat} {t : Tmp} {u : Bool}
end
end Go.Proofs.YtonejnaanklfjaaW.PrintLast

