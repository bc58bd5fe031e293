/- The plain law FingerprintMore over the printed functions; no condition but the numbers' kinds and the lists' lengths. -/
import Derived.Test.YtgaepndbfpfniaaPF4x25
import Derived.Test.YtgaepndbfpfniaaFM
namespace Go.Proofs.Ytgaepndbfpfniaa.Pure
open Go.RowKit Go.Proofs.Ytgaepndbfpfniaa.PF4 Go.Proofs.YtgaepndbfpfniaaW.PrintWords Go.Proofs.YtgaepndbfpfniaaW.PrintLast

theorem same_self {it fr tt co : Int} {ops : List Int} (h : ops.length ≤ 900) {k : Nat} (hk : 1000 ≤ k) : aircheckref36_Same.f k it fr tt co ops it fr tt co ops = some true := by
  unfold aircheckref36_Same.f
  rw [if_pos rfl, if_pos rfl, if_pos rfl, if_pos rfl, ints_f (by omega) (by omega)]
  simp
theorem more_end {h c : List Int} {P : List S34} (Hh : Hd h) (Hc : Pr c) (hv : VP (-1) P) (hi : ∀ q ∈ P, q.f0 < 60) (h1 : 1 ≤ P.length) (h4 : P.length ≤ 4) {k : Nat} (hk : 1000 ≤ k) :
    ∃ a b n, fingerprint_Best.f k P h = some a ∧ fingerprint_Best.f k (P ++ [(⟨100, c⟩ : S34)]) h = some b ∧ fingerprint_Cost.f k h c = some n ∧ fp_moreE k a b n = some true := by
  have hv' : VP (-1) (P ++ [(⟨100, c⟩ : S34)]) := VP.snoc (p := ⟨100, c⟩) (by show (100 : Int) < 200; omega) Hc hv (by show (-1 : Int) < 100; omega) (fun q hq => by have := hi q hq; show q.f0 < 100; omega)
  obtain ⟨b0, i0, j0, m0, o0, s0, hb0, e0, B0⟩ := best_f Hh hv h1 (by omega) (k := k) (by omega)
  obtain ⟨b1, i1, j1, m1, o1, s1, hb1, e1, B1⟩ := best_f Hh hv' (by simp) (by simp; omega) (k := k) (by omega)
  obtain ⟨n, en, hn⟩ := cost_f Hh Hc (k := k) (by omega)
  have hnc : cst h c = n := (cst_is h c).eq hn
  refine ⟨_, _, _, e0, e1, en, ?_⟩
  have hl : (P ++ [(⟨100, c⟩ : S34)]).length = P.length + 1 := by simp
  have old : ∀ q (hq : q < P.length), (P ++ [(⟨100, c⟩ : S34)])[q]'(by rw [hl]; omega) = P[q] := fun q hq => List.getElem_append_left hq
  have new : (P ++ [(⟨100, c⟩ : S34)])[P.length]'(by rw [hl]; omega) = ⟨100, c⟩ := by simp
  have l1 := B1.least b0 (by rw [hl]; omega)
  rw [old b0 hb0, B0.cost] at l1
  have l2 := B1.least P.length (by rw [hl]; omega)
  rw [new] at l2
  have l2 : m1 ≤ n := by rw [← hnc]; exact l2
  have l3 : m1 = n ∧ b1 = P.length ∨ b1 < P.length ∧ m0 ≤ m1 := by
    by_cases c1 : b1 < P.length
    · right
      refine ⟨c1, ?_⟩
      have q1 := B0.least b1 c1
      have q2 := B1.cost
      rw [old b1 c1] at q2
      omega
    · left
      obtain rfl : b1 = P.length := by rw [hl] at hb1; omega
      have q2 := B1.cost
      rw [new] at q2
      have q2 : cst h c = m1 := q2
      exact ⟨by omega, rfl⟩
  obtain ⟨s', es, hs⟩ := B1.second (by rw [hl]; omega)
  subst es
  have hm : (m1 : Int) = mn (m0 : Int) (n : Int) := by unfold mn; split <;> omega
  unfold fp_moreE
  rw [if_pos ⟨rfl, rfl, rfl, hm, by show (m1 : Int) ≤ (s' : Int); omega⟩]
  by_cases cc : n < m0
  · rw [if_pos (by show (n : Int) < (m0 : Int); omega)]
    rcases l3 with ⟨_, rfl⟩ | ⟨_, q⟩
    · simp only [new]
      rw [if_pos trivial]
    · omega
  · rw [if_neg (by show ¬ (n : Int) < (m0 : Int); omega)]
    have hb : b1 = b0 := by
      have f1 : ¬ b0 < b1 := fun hlt => B1.first b0 (by rw [hl]; omega) hlt (by rw [old b0 hb0, B0.cost]; rcases l3 with ⟨_, _⟩ | ⟨_, _⟩ <;> omega)
      have f2 : ¬ b1 < b0 := fun hlt => B0.first b1 (by omega) hlt (by
        have q2 := B1.cost
        rw [old b1 (by omega)] at q2
        rcases l3 with ⟨_, _⟩ | ⟨_, _⟩ <;> omega)
      omega
    subst hb
    have ea := B1.al
    have eb := B0.al
    rw [old b1 hb0] at ea
    rw [ea] at eb
    injection eb with eb
    injection eb with _ eb
    injection eb with q1 eb
    injection eb with q2 eb
    injection eb with q3 eb
    injection eb with q4 _
    simp only [old b1 hb0]
    rw [q1, q2, q3, q4]
    have hol := B0.at_.ops.len
    have hp := (hv.pr _ (List.getElem_mem hb0)).2.1
    have hh := Hh.1
    rw [same_self (by have := hol.1; simp at this; omega) hk]
    rfl
theorem FingerprintMore : airchecklaw36_FingerprintMore.Pure := by
  intro l0 l1 l2 h0 h1 h2
  refine ⟨1001, ?_⟩
  obtain ⟨v1, v2, v3, v4⟩ := made_vp l0
  obtain ⟨a, b, n, e1, e2, e3, e4⟩ := more_end (codes2_hd l1) (codes_pr l2).1 v1 v2 v3 v4 (k := 1001) (by omega)
  have q0 : ∀ x ∈ l0, x.length ≤ 9223372036854775806 ∧ ∀ y ∈ x, I64 y := fun x hx => by
    have := h0.2.2 x hx
    exact ⟨by have := this.2.1; omega, fun y hy => I64.of (this.2.2 y hy)⟩
  unfold airchecklaw36_FingerprintMore.f
  rw [made_f (by have := h0.2.1; omega) q0 (by omega), codes2_f (by have := h1.2.1; omega) (fun x hx => I64.of (h1.2.2 x hx)) (by omega), codes_f (by have := h2.2.1; omega) (fun x hx => I64.of (h2.2.2 x hx)) (by omega)]
  simp only [airchecklaw36_sane.f, Option.bind_some, if_true]
  rw [if_pos (by omega), e1, Option.bind_some, e2, Option.bind_some, e3, Option.bind_some, e4]

end Go.Proofs.Ytgaepndbfpfniaa.Pure
