/- The plain law FingerprintAligns over the printed functions; no condition but the numbers' kinds and the lists' lengths. -/
import Derived.Test.YtgaepndbfpfniaaPF4x22
import Derived.Test.YtgaepndbfpfniaaFD
namespace Go.Proofs.Ytgaepndbfpfniaa.Pure
open Go.RowKit Go.Proofs.Ytgaepndbfpfniaa.PF4 Go.Proofs.YtgaepndbfpfniaaW.PrintWords Go.Proofs.YtgaepndbfpfniaaW.PrintLast

theorem FingerprintAligns : airchecklaw36_FingerprintAligns.Pure := by
  intro l0 l1 a2 a3 h0 h1 h2 h3
  refine ⟨1001, ?_⟩
  obtain ⟨h, hh⟩ : ∃ a, a = codes2P l0 := ⟨_, rfl⟩
  obtain ⟨c, hc⟩ : ∃ a, a = codesP l1 := ⟨_, rfl⟩
  have Hh : Hd h := hh ▸ codes2_hd l0
  have Hc : Pr c := hc ▸ (codes_pr l1).1
  have hc16 : c.length ≤ 16 := hc ▸ (codes_pr l1).2
  have hc1 := Hc.1
  unfold airchecklaw36_FingerprintAligns.f
  rw [codes2_f (by have := h0.2.1; omega) (fun x hx => I64.of (h0.2.2 x hx)) (by omega), codes_f (by have := h1.2.1; omega) (fun x hx => I64.of (h1.2.2 x hx)) (by omega), ← hh, ← hc]
  simp only [airchecklaw36_sane.f, Option.bind_some, if_true]
  obtain ⟨i, j, n, ops, e1, b⟩ := align_f Hh Hc (k := 1001) (by omega)
  obtain ⟨n', e2, hn'⟩ := cost_f Hh Hc (k := 1001) (by omega)
  obtain rfl := b.cost.eq hn'
  have hij := b.ij
  have hj := b.jc
  rw [e1, Option.bind_some, e2, Option.bind_some, if_pos rfl, if_pos rfl, if_pos rfl, check_yes Hh Hc hij hj b.ops 0 (by omega), Option.bind_some, if_pos rfl, if_neg (by simp), if_neg (by simp; omega)]
  simp only [airchecklaw36_FingerprintAligns.j0]
  obtain ⟨f, hf⟩ : ∃ f, f = pickP a2 ((c.length : Int) + 1) := ⟨_, rfl⟩
  have hf1 := pickP_in (a := a2) (n := (c.length : Int) + 1) (by omega)
  rw [← hf] at hf1
  obtain ⟨g, hg⟩ : ∃ g, g = pickP a3 ((c.length : Int) + 1 - f) := ⟨_, rfl⟩
  have hg1 := pickP_in (a := a3) (n := (c.length : Int) + 1 - f) (by omega)
  rw [← hg] at hg1
  rw [if_neg (by simp; omega), if_pos (by omega), if_pos (by omega), if_pos (by omega), Int.toNat_natCast, Int.toNat_natCast, dist_f (Hc.hd.cut i j) Hh, Option.bind_some]
  rw [wrap_id (x := (c.length : Int) + 1) (by omega) (by omega), pick_f (I64.of h2) (by omega), ← hf, Option.bind_some, wrap_id (x := (c.length : Int) + 1 - f) (by omega) (by omega), pick_f (I64.of h3) (by omega), ← hg, Option.bind_some, wrap_id (x := f + g) (by omega) (by omega), if_pos (by omega), if_pos (by omega), if_pos (by omega)]
  rw [dist_f (Hc.hd.cut f.toNat (f + g).toNat) Hh, Option.bind_some, if_pos rfl, if_pos rfl]
  have q1 := b.lev
  have q2 := b.cost.le (i := f.toNat) (j := (f + g).toNat) (by omega)
  have q3 := b.first f.toNat (f + g).toNat (by omega) (by omega)
  rw [lev_symm ((c.take j).drop i) h, lev_symm ((c.take (f + g).toNat).drop f.toNat) h, if_pos (by omega), if_neg (by omega)]
  by_cases c1 : lev h ((c.take (f + g).toNat).drop f.toNat) = n
  · rw [if_neg (by omega)]
    rcases q3 c1 with c2 | ⟨c2, c3⟩
    · rw [if_pos (by omega)]
    · rw [if_neg (by omega), if_pos (by omega), decide_eq_true (by omega)]
  · rw [if_pos (by omega)]

end Go.Proofs.Ytgaepndbfpfniaa.Pure
