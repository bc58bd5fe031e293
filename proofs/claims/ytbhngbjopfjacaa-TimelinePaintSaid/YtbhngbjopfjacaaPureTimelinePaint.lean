/- The plain law TimelinePaint over the printed functions; no condition but the numbers' kinds and the lists' lengths. -/
import Derived.Test.YtbhngbjopfjacaaPS15x21
import Derived.Test.YtbhngbjopfjacaaTL
namespace Go.Proofs.Ytbhngbjopfjacaa.Pure
open Go.RowKit Go.Proofs.Ytbhngbjopfjacaa.PS15 Go.Proofs.YtbhngbjopfjacaaW.PrintWords Go.Proofs.YtbhngbjopfjacaaW.PrintLast

theorem sane_f {k : Nat} (hk : 1000 ≤ k) : airchecklaw15_sane.f k = some true :=
  at_rounds airchecklaw15_sane.mono hk (by
    unfold airchecklaw15_sane.f
    exact if_pos ⟨by kernel_rfl, by kernel_rfl, by kernel_rfl, by kernel_rfl, by kernel_rfl, by kernel_rfl, by kernel_rfl, by kernel_rfl, by kernel_rfl, by kernel_rfl, by kernel_rfl, by kernel_rfl, by kernel_rfl, by kernel_rfl, by kernel_rfl, by kernel_rfl, by kernel_rfl, by kernel_rfl, by kernel_rfl, by kernel_rfl, by kernel_rfl⟩)
theorem paint_law (e t own0 : Int) (l : List S25) (s : List S25) (he : Tl l e) (hl : l.length ≤ 200) (hs : s.length ≤ 20) (d : Nat) : ∀ (k i : Nat) (w : Int), i + d = s.length → d + 300 ≤ k → own0 = lastOwn t w (s.drop i) →
    airchecklaw15_TimelinePaint.l0 k e s l 0 t own0 0 w (i : Int) = some true := by
  induction d with
  | zero =>
    intro k i w hi hk hw
    obtain ⟨k, rfl⟩ : ∃ m, k = m + 1 := ⟨k - 1, by omega⟩
    simp only [airchecklaw15_TimelinePaint.l0]
    rw [List.drop_eq_nil_of_le (by omega)] at hw
    have hw' : own0 = w := hw
    rw [if_neg (by omega), if_true, if_true, if_pos hw', valid_tl he hl (by omega), Option.bind_some, if_pos rfl, end_tl he hl (by omega), Option.bind_some, beq_self_eq_true]
  | succ d ih =>
    intro k i w hi hk hw
    obtain ⟨k, rfl⟩ : ∃ m, k = m + 1 := ⟨k - 1, by omega⟩
    have hlt : i < s.length := by omega
    simp only [airchecklaw15_TimelinePaint.l0]
    rw [List.drop_eq_getElem_cons hlt] at hw
    rw [if_pos (by omega), if_pos (by omega), rd25 hlt, tl_wrap_up hlt (by omega)]
    by_cases c1 : (s[i]).f0 ≤ t
    · by_cases c2 : t < (s[i]).f1
      · rw [if_pos c1, if_pos c2]
        refine ih k (i + 1) _ (by omega) (by omega) ?_
        rw [hw]
        simp only [lastOwn, List.foldl_cons]
        rw [if_pos ⟨c1, c2⟩]
      · rw [if_pos c1, if_neg c2]
        refine ih k (i + 1) _ (by omega) (by omega) ?_
        rw [hw]
        simp only [lastOwn, List.foldl_cons]
        rw [if_neg (fun h => c2 h.2)]
    · rw [if_neg c1]
      refine ih k (i + 1) _ (by omega) (by omega) ?_
      rw [hw]
      simp only [lastOwn, List.foldl_cons]
      rw [if_neg (fun h => c1 h.1)]
theorem TimelinePaint : airchecklaw15_TimelinePaint.Pure := by
  intro a0 l1 a2 a3 h0 h1 h2 h3
  refine ⟨1000, ?_⟩
  unfold airchecklaw15_TimelinePaint.f
  have p0 := pickP_in (a := a0) (n := 400) (by omega)
  have p2 := pickP_in (a := a2) (n := 3000) (by omega)
  have p3 := pickP_in (a := a3) (n := 1 + pickP a0 400) (by omega)
  have hi := spans_in (e := 1 + pickP a0 400) (by omega) l1
  have hin : ∀ x ∈ spansP (1 + pickP a0 400) l1, Ins (1 + pickP a0 400) x := fun x hx => (hi.1 x hx).1
  obtain ⟨q1, q2, q3⟩ := paint_tl (e := 1 + pickP a0 400) (o := pickP a2 3000) (by omega) (by omega) p2.1 (by omega) hin
  obtain ⟨o, r1, r2⟩ := at_tl (t := pickP a3 (1 + pickP a0 400)) q1 (by omega) p3.1 p3.2 (by omega)
  have hl : l1.length ≤ 9223372036854775806 := by have := h1.2.1; omega
  rw [sane_f (by omega), Option.bind_some, if_pos rfl, pick_f (I64.of h0) (by omega), Option.bind_some, wrap_id (x := 1 + pickP a0 400) (by omega) (by omega), spans_f (by omega) (by omega) l1 hl h1.2.2 (by omega), Option.bind_some, pick_f (I64.of h2) (by omega), Option.bind_some, paint_f (by omega) (by omega) p2.1 (by omega) hin (by omega) (by omega), Option.bind_some, pick_f (I64.of h3) (by omega), Option.bind_some, r2, Option.bind_some]
  refine paint_law _ _ _ _ _ q1 (by omega) hi.2 _ 1000 0 _ (Nat.zero_add _) (by have := hi.2; omega) ?_
  have := q3 _ p3.1 p3.2
  rw [this] at r1
  exact (Option.some.inj r1).symm

end Go.Proofs.Ytbhngbjopfjacaa.Pure
