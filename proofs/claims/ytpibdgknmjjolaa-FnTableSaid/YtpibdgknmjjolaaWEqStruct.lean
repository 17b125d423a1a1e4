import Derived.Test.YtpibdgknmjjolaaWWords
import Derived.Laws.StructEq
namespace Go.Proofs.YtpibdgknmjjolaaW.PrintWords
open Go.RowKit
section
variable {P : Program} {d : Nat} {xs ys : Array Value} {f : Field} {fs : List Field} {a b : Value} {r s : Bool} {w : World}
end
end Go.Proofs.YtpibdgknmjjolaaW.PrintWords

