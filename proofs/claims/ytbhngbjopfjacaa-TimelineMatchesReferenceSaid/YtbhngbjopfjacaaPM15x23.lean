-- PRINTED by print.py (a twelfth state) out of the translation. Not trusted: Lean checks it.
import Derived.Test.YtbhngbjopfjacaaPM15x0
import Derived.Test.YtbhngbjopfjacaaPM15x21
import Derived.Test.YtbhngbjopfjacaaPM15x22
namespace Go.Proofs.Ytbhngbjopfjacaa.PM15
open Go.RowKit Go.Proofs.YtbhngbjopfjacaaW.PrintWords Go.Proofs.YtbhngbjopfjacaaW.PrintLast Go.Proofs.YtbhngbjopfjacaaW.PrintMore
attribute [local go_sem] max2_int min2_int max_two min_two max_three min_three max_four min_four   -- for this text's walks alone
set_option linter.unusedVariables false
set_option linter.unusedSimpArgs false

/-- THE ONE PURE STATEMENT of airchecklaw15_TimelineMatchesReference. -/
def airchecklaw15_TimelineMatchesReference.Pure : Prop := ∀ (a0 : Int) (l1 : List (S29)) (a2 : Int) (l3 : List (S29)) (l4 : List (S25)) (a5 : Int) (a6 : Int) (a7 : Int) (a8_0 : Int) (a8_1 : Int) (a8_2 : Int) (a9 : Int), (Lit.int .i64 a0).wf = true → (l1.length ≤ maxLen ∧ l1.length * 24 ≤ 140737488351232 ∧ ∀ x ∈ l1, (fun x => Q29 x) x) → (Lit.int .i64 a2).wf = true → (l3.length ≤ maxLen ∧ l3.length * 24 ≤ 140737488351232 ∧ ∀ x ∈ l3, (fun x => Q29 x) x) → (l4.length ≤ maxLen ∧ l4.length * 24 ≤ 140737488351232 ∧ ∀ x ∈ l4, (fun x => Q25 x) x) → (Lit.int .i64 a5).wf = true → (Lit.int .i64 a6).wf = true → (Lit.int .i64 a7).wf = true → Q25 (⟨a8_0, a8_1, a8_2⟩ : S25) → (Lit.int .i64 a9).wf = true → ∃ k, airchecklaw15_TimelineMatchesReference.f k a0 l1 a2 l3 l4 a5 a6 a7 a8_0 a8_1 a8_2 a9 = some true
theorem airchecklaw15_TimelineMatchesReference.walk : True := trivial

end Go.Proofs.Ytbhngbjopfjacaa.PM15
