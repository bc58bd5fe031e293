-- PRINTED by print.py (a twelfth state) out of the translation. Not trusted: Lean checks it.
import Derived.Test.YtgaepndbfpfniaaPFRx0
import Derived.Test.YtgaepndbfpfniaaPFRx36
import Derived.Test.YtgaepndbfpfniaaPFRx37
import Derived.Test.YtgaepndbfpfniaaFM
section
namespace Go.Proofs.Ytgaepndbfpfniaa.PFR
open Go.RowKit Go.Proofs.YtgaepndbfpfniaaW.PrintWords Go.Proofs.YtgaepndbfpfniaaW.PrintLast Go.Proofs.YtgaepndbfpfniaaW.PrintMore
attribute [local go_sem] max2_int min2_int max_two min_two max_three min_three max_four min_four   -- for this text's walks alone
set_option linter.unusedVariables false
set_option linter.unusedSimpArgs false

/-- THE ONE PURE STATEMENT of airchecklaw36_FingerprintMatchesReference. -/
def airchecklaw36_FingerprintMatchesReference.Pure : Prop := ∀ (l0_0 : List Int) (l0_1 : List Int) (l0_2 : List (S34)) (a0_3 : Int) (a0_4 : Int) (a0_5 : Int) (a0_6 : Int) (l0_7 : List Int) (l0_8 : List (List Int)) (l1 : List Int) (l2 : List Int) (l3 : List (List Int)) (a4_0 : Int) (a4_1 : Int) (a4_2 : Int), Q28 (⟨l0_0, l0_1, l0_2, (⟨a0_3, a0_4, a0_5, a0_6, l0_7⟩ : S25), l0_8⟩ : S28) → (l1.length ≤ maxLen ∧ l1.length * 8 ≤ 140737488351232 ∧ ∀ x ∈ l1, (fun x => (Lit.int .i64 x).wf = true) x) → (l2.length ≤ maxLen ∧ l2.length * 8 ≤ 140737488351232 ∧ ∀ x ∈ l2, (fun x => (Lit.int .i64 x).wf = true) x) → (l3.length ≤ maxLen ∧ l3.length * 24 ≤ 140737488351232 ∧ ∀ x ∈ l3, (fun x => (x.length ≤ maxLen ∧ x.length * 8 ≤ 140737488351232 ∧ ∀ y ∈ x, (fun y => (Lit.int .i64 y).wf = true) y)) x) → Q29 (⟨a4_0, a4_1, a4_2⟩ : S29) → ∃ k, airchecklaw36_FingerprintMatchesReference.f k l0_0 l0_1 l0_2 a0_3 a0_4 a0_5 a0_6 l0_7 l0_8 l1 l2 l3 a4_0 a4_1 a4_2 = some true
end Go.Proofs.Ytgaepndbfpfniaa.PFR
end

section
namespace Go.Proofs.Ytgaepndbfpfniaa.Pure
open Go.RowKit Go.Proofs.Ytgaepndbfpfniaa.PFR Go.Proofs.YtgaepndbfpfniaaW.PrintWords Go.Proofs.YtgaepndbfpfniaaW.PrintLast

theorem two_len {α : Type} {a b : List α} (ha : a.length ≤ 1000) (hb : b.length ≤ 1000) (i : Nat) : (mr_two a b i).length ≤ 1000 := by unfold mr_two; split <;> assumption
theorem FingerprintMatchesReference : airchecklaw36_FingerprintMatchesReference.Pure := by
  intro lh lc lp m1 m2 m3 m4 lo lt lx ly lz p0 p1 p2 _ hx hy hz hq
  refine ⟨100000, ?_⟩
  unfold airchecklaw36_FingerprintMatchesReference.f mr_if
  refine if_pos ?_
  have w0 : I64 p0 := I64.of hq.1
  have w1 : I64 p1 := I64.of hq.2.1
  have x1 : ∀ x ∈ lx, I64 x := fun x h => I64.of (hx.2.2 x h)
  have y1 : ∀ x ∈ ly, I64 x := fun x h => I64.of (hy.2.2 x h)
  have z1 : ∀ x ∈ lz, x.length ≤ 9223372036854775806 ∧ ∀ y ∈ x, I64 y := fun x h => ⟨by have := (hz.2.2 x h).2.1; omega, fun y hy => I64.of ((hz.2.2 x h).2.2 y hy)⟩
  have c1 := (codes2_in lx).1
  have c2 := (codes_pr ly).2
  have c3 := (made_vp lz).2.2.2
  have d1 : (lh.take 20).length ≤ 1000 := by rw [List.length_take]; omega
  have d2 : (lc.take 20).length ≤ 1000 := by rw [List.length_take]; omega
  have d3 : (lo.take 40).length ≤ 1000 := by rw [List.length_take]; omega
  have d4 : (mr_prs lp).length ≤ 1000 := by unfold mr_prs; rw [List.length_map, List.length_take]; omega
  refine ⟨codes2P lx, codesP ly, madeP lz, codes2_f (by have := hx.2.1; omega) x1 (by omega), codes_f (by have := hy.2.1; omega) y1 (by omega), made_f (by have := hz.2.1; omega) z1 (by omega), fun i _ => ?_, fun i _ j _ => ?_⟩
  · exact hok_f (two_len d4 (by omega) i) (by omega)
  · exact hcok_f (two_len d1 (by omega) i) (two_len d2 (by omega) j) (two_len d4 (by omega) j) _ m1 m2 m3 m4 d3 w0 w1 p2 (by omega)

end Go.Proofs.Ytgaepndbfpfniaa.Pure
end
