-- PRINTED by print.py (a twelfth state) out of the translation. Not trusted: Lean checks it.
import Derived.Test.YtbhngbjopfjacaaPS15x0
namespace Go.Proofs.Ytbhngbjopfjacaa.PS15
open Go.RowKit Go.Proofs.YtbhngbjopfjacaaW.PrintWords Go.Proofs.YtbhngbjopfjacaaW.PrintLast Go.Proofs.YtbhngbjopfjacaaW.PrintMore
attribute [local go_sem] max2_int min2_int max_two min_two max_three min_three max_four min_four   -- for this text's walks alone
set_option linter.unusedVariables false
set_option linter.unusedSimpArgs false

def Q29 (x : S29) : Prop := (Lit.int .i64 x.f0).wf = true ∧ (Lit.int .i64 x.f1).wf = true ∧ (Lit.int .i64 x.f2).wf = true
set_option maxRecDepth 100000 in
theorem o29 : Open.Opens Try.prog 29 k29 Q29 :=
  Open.Opens.imp (Open.opens_iso (f := (fun x : S29 => (x.f0, x.f1, x.f2))) (fun a => ⟨a.1, a.2.1, a.2.2⟩) (fun _ => rfl) (Open.opens_array (fl := [(3, 0), (3, 1), (3, 2)]) Try.underlying29 (by kernel_rfl) (by kernel_rfl) (Open.opensL_cons (by kernel_rfl) (Open.opens_int Try.underlying3) (Open.opensL_cons (by kernel_rfl) (Open.opens_int Try.underlying3) (Open.opensL_one (by kernel_rfl) (Open.opens_int Try.underlying3)))))) (fun _ h => h)

end Go.Proofs.Ytbhngbjopfjacaa.PS15
