-- Words of the printed proofs, cut by trim.py to what this seat's proofs name, out of what the kit's print.sh has written for this seat.
import Derived.Test.YtgaepndbfpfniaaWWords
import Derived.Laws.StructEq
/-! ### 53. '==' of structs as_ one Bool -/
namespace Go.Proofs.YtgaepndbfpfniaaW.PrintWords
open Go.RowKit
section
variable {P : Program} {d : Nat} {xs ys : Array Value} {f : Field} {fs : List Field} {a b : Value} {r s : Bool} {w : World}
end
end Go.Proofs.YtgaepndbfpfniaaW.PrintWords
