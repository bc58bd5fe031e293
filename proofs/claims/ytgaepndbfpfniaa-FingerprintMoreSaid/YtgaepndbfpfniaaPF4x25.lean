-- PRINTED by print.py (a twelfth state) out of the translation. Not trusted: Lean checks it.
import Derived.Test.YtgaepndbfpfniaaPF4x0
import Derived.Test.YtgaepndbfpfniaaPF4x24
namespace Go.Proofs.Ytgaepndbfpfniaa.PF4
open Go.RowKit Go.Proofs.YtgaepndbfpfniaaW.PrintWords Go.Proofs.YtgaepndbfpfniaaW.PrintLast Go.Proofs.YtgaepndbfpfniaaW.PrintMore
attribute [local go_sem] max2_int min2_int max_two min_two max_three min_three max_four min_four   -- for this text's walks alone
set_option linter.unusedVariables false
set_option linter.unusedSimpArgs false

/-- THE ONE PURE STATEMENT of airchecklaw36_FingerprintMore. -/
def airchecklaw36_FingerprintMore.Pure : Prop := ∀ (l0 : List (List Int)) (l1 : List Int) (l2 : List Int), (l0.length ≤ maxLen ∧ l0.length * 24 ≤ 140737488351232 ∧ ∀ x ∈ l0, (fun x => (x.length ≤ maxLen ∧ x.length * 8 ≤ 140737488351232 ∧ ∀ y ∈ x, (fun y => (Lit.int .i64 y).wf = true) y)) x) → (l1.length ≤ maxLen ∧ l1.length * 8 ≤ 140737488351232 ∧ ∀ x ∈ l1, (fun x => (Lit.int .i64 x).wf = true) x) → (l2.length ≤ maxLen ∧ l2.length * 8 ≤ 140737488351232 ∧ ∀ x ∈ l2, (fun x => (Lit.int .i64 x).wf = true) x) → ∃ k, airchecklaw36_FingerprintMore.f k l0 l1 l2 = some true
theorem airchecklaw36_FingerprintMore.walk : True := trivial

end Go.Proofs.Ytgaepndbfpfniaa.PF4
