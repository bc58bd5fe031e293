-- PRINTED by print.py (a twelfth state) out of the translation. Not trusted: Lean checks it.
import Derived.Test.YtbhngbjopfjacaaPS15x0
import Derived.Test.YtbhngbjopfjacaaPS15x17
namespace Go.Proofs.Ytbhngbjopfjacaa.PS15
open Go.RowKit Go.Proofs.YtbhngbjopfjacaaW.PrintWords Go.Proofs.YtbhngbjopfjacaaW.PrintLast Go.Proofs.YtbhngbjopfjacaaW.PrintMore
attribute [local go_sem] max2_int min2_int max_two min_two max_three min_three max_four min_four   -- for this text's walks alone
set_option linter.unusedVariables false
set_option linter.unusedSimpArgs false

def Q56 (x : S56) : Prop := Q29 x.f0 ∧ Q29 x.f1
set_option maxRecDepth 100000 in
theorem o56 : Open.Opens Try.prog 56 k56 Q56 :=
  Open.Opens.imp (Open.opens_iso (f := (fun x : S56 => (x.f0, x.f1))) (fun a => ⟨a.1, a.2⟩) (fun _ => rfl) (Open.opens_array (fl := [(29, 0), (29, 3)]) Try.underlying56 (by kernel_rfl) (by kernel_rfl) (Open.opensL_cons (by kernel_rfl) o29 (Open.opensL_one (by kernel_rfl) o29)))) (fun _ h => h)

end Go.Proofs.Ytbhngbjopfjacaa.PS15
