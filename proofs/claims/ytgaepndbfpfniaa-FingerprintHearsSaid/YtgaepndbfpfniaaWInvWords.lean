-- Words of the printed proofs, cut by trim.py to what this seat's proofs name, out of what the kit's print.sh has written for this seat.
import Derived.Test.YtgaepndbfpfniaaWInv
import Derived.Test.YtgaepndbfpfniaaWFootNe
namespace Go.Proofs.YtgaepndbfpfniaaW.PrintWords
open Go.RowKit
end Go.Proofs.YtgaepndbfpfniaaW.PrintWords
namespace Go.Proofs.YtgaepndbfpfniaaW.PrintLast
section
variable {ops : Array Oper} {a : Act} {o og : Oper} {g : Nat} {t : Tmp} {u : Bool}
end
end Go.Proofs.YtgaepndbfpfniaaW.PrintLast
