-- Words of the printed proofs, cut by trim.py to what this seat's proofs name, out of what the kit's print.sh has written for this seat.
import Derived.Test.YtbhngbjopfjacaaWInv
import Derived.Test.YtbhngbjopfjacaaWFootNe
namespace Go.Proofs.YtbhngbjopfjacaaW.PrintWords
open Go.RowKit
end Go.Proofs.YtbhngbjopfjacaaW.PrintWords
namespace Go.Proofs.YtbhngbjopfjacaaW.PrintLast
section
variable {ops : Array Oper} {a : Act} {o og : Oper} {g : Nat} {t : Tmp} {u : Bool}
end
end Go.Proofs.YtbhngbjopfjacaaW.PrintLast
