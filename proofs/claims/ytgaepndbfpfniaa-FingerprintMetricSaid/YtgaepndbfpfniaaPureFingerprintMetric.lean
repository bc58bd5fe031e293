/- The plain law FingerprintMetric over the printed functions; no condition but the numbers' kinds and the lists' lengths. -/
import Derived.Test.YtgaepndbfpfniaaPF4x21
import Derived.Test.YtgaepndbfpfniaaFP
namespace Go.Proofs.Ytgaepndbfpfniaa.Pure
open Go.RowKit Go.Proofs.Ytgaepndbfpfniaa.PF4 Go.Proofs.YtgaepndbfpfniaaW.PrintWords Go.Proofs.YtgaepndbfpfniaaW.PrintLast

theorem FingerprintMetric : airchecklaw36_FingerprintMetric.Pure := by
  intro l0 l1 l2 h0 h1 h2
  refine ⟨1000, ?_⟩
  have m : ∀ l : List Int, (l.length ≤ maxLen ∧ l.length * 8 ≤ 140737488351232 ∧ ∀ x ∈ l, (fun x => (Lit.int .i64 x).wf = true) x) → aircheckref36_Codes2.f 1000 l = some (codes2P l) := fun l h =>
    codes2_f (by have := h.2.1; omega) (fun x hx => I64.of (h.2.2 x hx)) (by omega)
  obtain ⟨a, ha⟩ : ∃ a, a = codes2P l0 := ⟨_, rfl⟩
  obtain ⟨b, hb⟩ : ∃ a, a = codes2P l1 := ⟨_, rfl⟩
  obtain ⟨c, hc⟩ : ∃ a, a = codes2P l2 := ⟨_, rfl⟩
  have Ha : Hd a := ha ▸ codes2_hd l0
  have Hb : Hd b := hb ▸ codes2_hd l1
  have Hc : Hd c := hc ▸ codes2_hd l2
  unfold airchecklaw36_FingerprintMetric.f
  rw [m l0 h0, m l1 h1, m l2 h2, ← ha, ← hb, ← hc]
  simp only [airchecklaw36_sane.f, Option.bind_some, if_true]
  rw [dist_f Ha Hb, dist_f Hb Ha, dist_f Ha Hc, dist_f Hc Hb, dist_f Ha Ha]
  simp only [Option.bind_some, if_true]
  have t := lev_tri a c b
  have t1 := lev_le (lev_ed a c)
  have b1 : lev a c < 1000 ∧ lev c b < 1000 := by
    have := lev_tri a [] c
    have := lev_tri c [] b
    rw [lev_nil', lev_nil] at *
    have := Ha.1
    have := Hb.1
    have := Hc.1
    omega
  rw [if_pos (by rw [lev_symm]), wrap_id (by omega) (by omega), if_pos (by omega), if_pos (by rw [lev_self]; rfl), ints_f (by have := Ha.1; omega) (by have := Ha.1; omega), Option.bind_some, if_pos ?_, decide_eq_true (by omega)]
  by_cases e : a = b
  · subst e
    simp [lev_self]
  · have : lev a b ≠ 0 := fun h => e ((lev_zero a b).1 h)
    simp [e, this]

end Go.Proofs.Ytgaepndbfpfniaa.Pure
