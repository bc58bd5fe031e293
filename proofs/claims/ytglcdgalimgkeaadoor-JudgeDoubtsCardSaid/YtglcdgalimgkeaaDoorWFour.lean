-- Words of the printed proofs, cut by trim.py to what this seat's proofs name, out of what the kit's print.sh has written for this seat.
import Derived.Test.YtglcdgalimgkeaaDoorWTab
import Derived.Test.YtglcdgalimgkeaaDoorWInv
import Derived.Test.YtglcdgalimgkeaaDoorWNEv
import Derived.Test.YtglcdgalimgkeaaDoorWWords
section
/-! ### 56. Four, five, six operations that may come up next, in any order -/
namespace Go.Proofs.YtglcdgalimgkeaaDoorW.PrintLast
section
variable {P : Program} {ops : Array Oper} {Q : Exit → Act → World → Prop} {md : Region.Mode} {S : World → Prop} {ds : List Nat} {T : Bool × List (List Nat × List Nat)}
end
end Go.Proofs.YtglcdgalimgkeaaDoorW.PrintLast
end

section
namespace Go.Proofs.YtglcdgalimgkeaaDoorW.PrintWords
open Go.RowKit
end Go.Proofs.YtglcdgalimgkeaaDoorW.PrintWords
namespace Go.Proofs.YtglcdgalimgkeaaDoorW.PrintLast
section
variable {ops : Array Oper} {a : Act} {o og : Oper} {g : Nat} {t : Tmp} {u : Bool}
end
end Go.Proofs.YtglcdgalimgkeaaDoorW.PrintLast
end

section
/-! ### 58. A guarded operation whose guard is known to want it: the same goal without the guard -/
namespace Go.Proofs.YtglcdgalimgkeaaDoorW.PrintWords
open Go.RowKit
section
variable {P : Program} {ops : Array Oper} {rest : List Oper} {o : Oper} {a : Act} {Q : Exit → Act → World → Prop} {W : World}
/-- The gate takes the guard off (hw: 'by rfl', 'by kernel_rfl': the guard's slot holds what is wanted). -/
theorem gate_guard (hw : Region.wanted o (yielded ops a.tmps) = true) (h : wpList P ops Q ({ o with guard := none } :: rest) a W) : wpList P ops Q (o :: rest) a W := by
  have h1 : Region.wanted { o with guard := none } (yielded ops a.tmps) = true := rfl
  unfold wpList at h ⊢
  rw [if_pos h1] at h
  rw [if_pos hw]
  exact h
end
end Go.Proofs.YtglcdgalimgkeaaDoorW.PrintWords
end
