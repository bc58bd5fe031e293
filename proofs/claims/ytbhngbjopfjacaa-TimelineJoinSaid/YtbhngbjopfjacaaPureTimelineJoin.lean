/- The plain law TimelineJoin over the printed functions; no condition but the numbers' kinds and the lists' lengths. -/
import Derived.Test.YtbhngbjopfjacaaPS15x21
import Derived.Test.YtbhngbjopfjacaaTL
namespace Go.Proofs.Ytbhngbjopfjacaa.Pure
open Go.RowKit Go.Proofs.Ytbhngbjopfjacaa.PS15 Go.Proofs.YtbhngbjopfjacaaW.PrintWords Go.Proofs.YtbhngbjopfjacaaW.PrintLast

theorem sane_f {k : Nat} (hk : 1000 ≤ k) : airchecklaw15_sane.f k = some true :=
  at_rounds airchecklaw15_sane.mono hk (by
    unfold airchecklaw15_sane.f
    exact if_pos ⟨by kernel_rfl, by kernel_rfl, by kernel_rfl, by kernel_rfl, by kernel_rfl, by kernel_rfl, by kernel_rfl, by kernel_rfl, by kernel_rfl, by kernel_rfl, by kernel_rfl, by kernel_rfl, by kernel_rfl, by kernel_rfl, by kernel_rfl, by kernel_rfl, by kernel_rfl, by kernel_rfl, by kernel_rfl, by kernel_rfl, by kernel_rfl⟩)
theorem join_law (a b same only whole abc also : List S25) (h1 : same = a) (h2 : only = b) (h3 : whole = a) (h4 : abc = also) (ha : a.length ≤ 400) (hb : b.length ≤ 400) (hc : also.length ≤ 400) {k : Nat} (hk : 500 < k) :
    airchecklaw15_TimelineJoin.j0 k a b same only whole abc also false = some true := by
  obtain ⟨k, rfl⟩ : ∃ m, k = m + 1 := ⟨k - 1, by omega⟩
  subst h1 h2 h3 h4
  simp only [airchecklaw15_TimelineJoin.j0]
  rw [if_neg (by simp), same_refl _ (by omega) (by omega), Option.bind_some, if_pos rfl, same_refl _ (by omega) (by omega), Option.bind_some, if_pos rfl, Option.bind_some, if_pos rfl, same_refl _ (by omega) (by omega), Option.bind_some]
theorem TimelineJoin : airchecklaw15_TimelineJoin.Pure := by
  intro a0 l1 l2 l3 a4 a5 h0 h1 h2 h3 h4 h5
  refine ⟨1000, ?_⟩
  unfold airchecklaw15_TimelineJoin.f
  have he := endP_in a0
  obtain ⟨A1, A2, _⟩ := made_tl a0 l1
  obtain ⟨B1, B2, _⟩ := made_tl a0 l2
  obtain ⟨C1, C2, _⟩ := made_tl a0 l3
  have p1 := pickP_in (a := a4) (n := endP a0 + 1) (by omega)
  have p2 := pickP_in (a := a5) (n := endP a0 + 1 - pickP a4 (endP a0 + 1)) (by omega)
  have hl1 : l1.length ≤ 9223372036854775806 := by have := h1.2.1; omega
  have hl2 : l2.length ≤ 9223372036854775806 := by have := h2.2.1; omega
  have hl3 : l3.length ≤ 9223372036854775806 := by have := h3.2.1; omega
  have e0 : wrap64 (1 + pickP a0 400) = endP a0 := wrap_id (by unfold endP at he; omega) (by unfold endP at he; omega)
  have e1 : wrap64 (endP a0 + 1) = endP a0 + 1 := wrap_id (by omega) (by omega)
  have e2 : wrap64 (endP a0 + 1 - pickP a4 (endP a0 + 1)) = endP a0 + 1 - pickP a4 (endP a0 + 1) := wrap_id (by omega) (by omega)
  have e3 : wrap64 (pickP a4 (endP a0 + 1) + pickP a5 (endP a0 + 1 - pickP a4 (endP a0 + 1))) = pickP a4 (endP a0 + 1) + pickP a5 (endP a0 + 1 - pickP a4 (endP a0 + 1)) := wrap_id (by omega) (by omega)
  obtain ⟨t, ht⟩ : ∃ t, pickP a4 (endP a0 + 1) = t := ⟨_, rfl⟩
  rw [ht] at p1 p2 e2 e3
  obtain ⟨u, hu⟩ : ∃ u, t + pickP a5 (endP a0 + 1 - t) = u := ⟨_, rfl⟩
  rw [hu] at e3
  have hu0 : t ≤ u ∧ u ≤ endP a0 := by omega
  obtain ⟨q1, q2, q3⟩ := join_tl A1 A1 p1.1 (by omega) (by omega)
  obtain ⟨r1, r2, r3⟩ := join_tl A1 B1 (t := 0) (by omega) (by omega) (by omega)
  obtain ⟨s1, s2, s3⟩ := join_tl A1 B1 (t := endP a0) (by omega) (by omega) (by omega)
  obtain ⟨u1, u2, u3⟩ := join_tl A1 B1 (t := t) (by omega) (by omega) (by omega)
  obtain ⟨v1, v2, v3⟩ := join_tl u1 C1 (t := u) (by omega) (by omega) (by omega)
  obtain ⟨w1, w2, w3⟩ := join_tl B1 C1 (t := u) (by omega) (by omega) (by omega)
  obtain ⟨x1, x2, x3⟩ := join_tl A1 w1 (t := t) (by omega) (by omega) (by omega)
  rw [sane_f (by omega), Option.bind_some, if_pos rfl, pick_f (I64.of h0) (by omega), Option.bind_some, made_f (I64.of h0) l1 hl1 h1.2.2 (by omega), Option.bind_some, made_f (I64.of h0) l2 hl2 h2.2.2 (by omega), Option.bind_some, made_f (I64.of h0) l3 hl3 h3.2.2 (by omega), Option.bind_some,
    e0, e1, pick_f (I64.of h4) (by omega), Option.bind_some, ht, e2, pick_f (I64.of h5) (by omega), Option.bind_some, hu, e3,
    join_f A1 A1 (by omega) (by omega) (by omega) (by omega), Option.bind_some,
    join_f A1 B1 (by omega) (by omega) (by omega) (by omega), Option.bind_some,
    join_f A1 B1 (by omega) (by omega) (by omega) (by omega), Option.bind_some,
    join_f A1 B1 (by omega) (by omega) (by omega) (by omega), Option.bind_some,
    join_f u1 C1 (by omega) (by omega) (by omega) (by omega), Option.bind_some,
    join_f B1 C1 (by omega) (by omega) (by omega) (by omega), Option.bind_some,
    join_f A1 w1 (by omega) (by omega) (by omega) (by omega), Option.bind_some,
    if_pos rfl, if_pos rfl, if_pos rfl, if_pos rfl, if_pos rfl, if_pos rfl]
  refine join_law _ _ _ _ _ _ _ ?_ ?_ ?_ ?_ (by omega) (by omega) (by dsimp only; omega) (by omega)
  · exact same_of_tl q1 A1 (fun s s0 s1 => by rw [q2 s s0 s1]; split <;> rfl)
  · exact same_of_tl r1 B1 (fun s s0 s1 => by rw [r2 s s0 s1, if_neg (by omega)])
  · exact same_of_tl s1 A1 (fun s s0 s1 => by rw [s2 s s0 s1, if_pos (by omega)])
  · refine same_of_tl v1 x1 (fun s s0 s1 => ?_)
    rw [v2 s s0 s1, x2 s s0 s1, u2 s s0 s1, w2 s s0 s1]
    split <;> split <;> first | rfl | omega

end Go.Proofs.Ytbhngbjopfjacaa.Pure
