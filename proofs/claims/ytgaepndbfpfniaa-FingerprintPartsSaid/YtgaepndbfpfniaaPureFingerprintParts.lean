/- The plain law FingerprintParts over the printed functions; no condition but the numbers' kinds and the lists' lengths. -/
import Derived.Test.YtgaepndbfpfniaaPF4x23
import Derived.Test.YtgaepndbfpfniaaFP
namespace Go.Proofs.Ytgaepndbfpfniaa.Pure
open Go.RowKit Go.Proofs.Ytgaepndbfpfniaa.PF4 Go.Proofs.YtgaepndbfpfniaaW.PrintWords Go.Proofs.YtgaepndbfpfniaaW.PrintLast

theorem parts_end {h c : List Int} (Hh : Hd h) (Hc : Pr c) {n m : Nat} (hn : IsCost h c n) (hm1 : n ≤ m) (hm2 : m ≤ n + 1) {k : Nat} (hk : 2 ≤ k) :
    airchecklaw36_FingerprintParts.l1 k h c 0 0 n 0 m 0 (noise h) h.reverse c.reverse (c.length : Int) = some true := by
  obtain ⟨k, rfl⟩ : ∃ m, k = m + 1 := ⟨k - 1, by omega⟩
  simp only [airchecklaw36_FingerprintParts.l1]
  have h60 := Hh.1
  have h1 := hn.le_length
  have h2 := hn.noise (fun x hx => (Hc.2.2 x hx).1)
  obtain ⟨n', e, hn'⟩ := cost_f Hh.reverse Hc.reverse (k := k) (by omega)
  have := hn.reverse.eq hn'
  subst this
  rw [if_neg (by omega), e, Option.bind_some]
  simp only [if_true]
  rw [if_pos (by omega), wrap_id (by omega) (by omega), if_pos (by omega), if_pos (by omega), if_pos (by omega)]
  simp
theorem rev_snoc {l : List Int} {i : Nat} (h : i < l.length) : (l.drop (l.length - i)).reverse ++ [rd l ((l.length - 1 - i : Nat) : Int)] = (l.drop (l.length - (i + 1))).reverse := by
  rw [rd_get (by omega), show l.length - (i + 1) = l.length - 1 - i by omega, List.drop_eq_getElem_cons (by omega : l.length - 1 - i < l.length), List.reverse_cons, show l.length - 1 - i + 1 = l.length - i by omega]
theorem wrap_back {l : List Int} {i : Nat} (h : i < l.length) (hl : l.length ≤ 100) : wrap64 (wrap64 ((l.length : Int) - 1) - (i : Int)) = ((l.length - 1 - i : Nat) : Int) := by
  rw [wrap_id (x := (l.length : Int) - 1) (by omega) (by omega), wrap_id (by omega) (by omega)]; omega
theorem parts_l1 {h c : List Int} (Hh : Hd h) (Hc : Pr c) {n m : Nat} (hn : IsCost h c n) (hm1 : n ≤ m) (hm2 : m ≤ n + 1) (d : Nat) : ∀ (k i : Nat), i ≤ c.length → c.length - i = d → d + 2 ≤ k →
    airchecklaw36_FingerprintParts.l1 k h c 0 0 n 0 m 0 (noise h) h.reverse (c.drop (c.length - i)).reverse (i : Int) = some true := by
  have hc60 := Hc.2.1
  induction d with
  | zero =>
    intro k i h1 h2 h3
    obtain rfl : i = c.length := by omega
    rw [Nat.sub_self, List.drop_zero]
    exact parts_end Hh Hc hn hm1 hm2 h3
  | succ d ih =>
    intro k i h1 h2 h3
    obtain ⟨k, rfl⟩ : ∃ m, k = m + 1 := ⟨k - 1, by omega⟩
    simp only [airchecklaw36_FingerprintParts.l1]
    rw [if_pos (by omega), wrap_back (by omega) (by omega), if_pos (by omega), if_pos (by omega), if_pos (by simp; omega), rev_snoc (by omega), wrap_up (l := c) (by omega) (by omega), ih k (i + 1) (by omega) (by omega) (by omega)]
theorem noise_append (a b : List Int) : noise (a ++ b) = noise a + noise b := by
  induction a with
  | nil => simp [noise]
  | cons x a ih => simp only [List.cons_append, noise, ih]; omega
theorem noise_take {h : List Int} {i : Nat} (hi : i < h.length) : noise (h.take (i + 1)) = noise (h.take i) + (if rd h (i : Int) = -1 then 1 else 0) := by
  rw [List.take_succ_eq_append_getElem hi, noise_append, rd_get hi]
  simp [noise]
theorem noise_le (a : List Int) : noise a ≤ a.length := by
  induction a with
  | nil => simp [noise]
  | cons x a ih => simp only [noise, List.length_cons]; split <;> omega
theorem parts_l0 {h c : List Int} (Hh : Hd h) (Hc : Pr c) {n m : Nat} (hn : IsCost h c n) (hm1 : n ≤ m) (hm2 : m ≤ n + 1) (d : Nat) : ∀ (k i : Nat), i ≤ h.length → h.length - i = d → d + c.length + 4 ≤ k →
    airchecklaw36_FingerprintParts.l0 k h c 0 0 n 0 m 0 (noise (h.take i)) (h.drop (h.length - i)).reverse (i : Int) = some true := by
  have hc60 := Hc.2.1
  have hh60 := Hh.1
  induction d with
  | zero =>
    intro k i h1 h2 h3
    obtain rfl : i = h.length := by omega
    obtain ⟨k, rfl⟩ : ∃ m, k = m + 1 := ⟨k - 1, by omega⟩
    simp only [airchecklaw36_FingerprintParts.l0]
    rw [if_neg (by omega), Nat.sub_self, List.drop_zero, List.take_length]
    have := parts_l1 Hh Hc hn hm1 hm2 c.length k 0 (by omega) (by omega) (by omega)
    simpa using this
  | succ d ih =>
    intro k i h1 h2 h3
    obtain ⟨k, rfl⟩ : ∃ m, k = m + 1 := ⟨k - 1, by omega⟩
    simp only [airchecklaw36_FingerprintParts.l0]
    have e := ih k (i + 1) (by omega) (by omega) (by omega)
    rw [noise_take (by omega)] at e
    have hno := noise_le (h.take i)
    have hno2 : (h.take i).length ≤ 60 := by simp; omega
    rw [if_pos (by omega), wrap_back (by omega) (by omega), if_pos (by omega), if_pos (by omega), if_pos (by simp; omega), rev_snoc (by omega), Option.bind_some, if_pos (by omega), wrap_up (l := h) (i := i) (by omega) (by omega)]
    by_cases hx : rd h (i : Int) = -1
    · rw [if_pos hx, wrap_id (by omega) (by omega)]
      rw [if_pos hx] at e
      exact e
    · rw [if_neg hx]
      rw [if_neg hx, Nat.add_zero] at e
      exact e
theorem FingerprintParts : airchecklaw36_FingerprintParts.Pure := by
  intro l0 l1 a2 a3 a4 h0 h1 h2 h3 h4
  refine ⟨1000, ?_⟩
  obtain ⟨h, hh⟩ : ∃ a, a = codes2P l0 := ⟨_, rfl⟩
  obtain ⟨c, hc⟩ : ∃ a, a = codesP l1 := ⟨_, rfl⟩
  have Hh : Hd h := hh ▸ codes2_hd l0
  have Hh2 := hh ▸ codes2_in l0
  have Hc : Pr c := hc ▸ (codes_pr l1).1
  have hc16 : c.length ≤ 16 := hc ▸ (codes_pr l1).2
  have hc1 := Hc.1
  unfold airchecklaw36_FingerprintParts.f
  rw [codes2_f (by have := h0.2.1; omega) (fun x hx => I64.of (h0.2.2 x hx)) (by omega), codes_f (by have := h1.2.1; omega) (fun x hx => I64.of (h1.2.2 x hx)) (by omega), ← hh, ← hc]
  simp only [airchecklaw36_sane.f, Option.bind_some, if_true]
  obtain ⟨i, hi⟩ : ∃ i, i = pickP a2 ((c.length : Int) + 1) := ⟨_, rfl⟩
  have hi1 := pickP_in (a := a2) (n := (c.length : Int) + 1) (by omega)
  rw [← hi] at hi1
  obtain ⟨j, hj⟩ : ∃ j, j = pickP a3 ((c.length : Int) + 1 - i) := ⟨_, rfl⟩
  have hj1 := pickP_in (a := a3) (n := (c.length : Int) + 1 - i) (by omega)
  rw [← hj] at hj1
  rw [wrap_id (x := (c.length : Int) + 1) (by omega) (by omega), pick_f (I64.of h2) (by omega), ← hi, Option.bind_some, wrap_id (x := (c.length : Int) + 1 - i) (by omega) (by omega), pick_f (I64.of h3) (by omega), ← hj, Option.bind_some, wrap_id (x := i + j) (by omega) (by omega), if_pos (by omega), if_pos (by omega), if_pos (by omega)]
  obtain ⟨n0, e0, q0⟩ := cost_f (Hc.hd.cut i.toNat (i + j).toNat) Hc (k := 1000) (by omega)
  obtain ⟨n, e1, q1⟩ := cost_f Hh Hc (k := 1000) (by omega)
  have p := pickP_in (a := a4) (n := 257) (by omega)
  have Hm : Hd (h ++ [pickP a4 257 - 1]) := ⟨by simp; omega, fun x hx => by
    rw [List.mem_append, List.mem_singleton] at hx
    rcases hx with hx | rfl
    · exact Hh.2 x hx
    · omega⟩
  obtain ⟨m, e2, q2⟩ := cost_f Hm Hc (k := 1000) (by omega)
  have n00 := q0.part (cut_parts (c := c) (i := i.toNat) (j := (i + j).toNat) (by omega))
  subst n00
  obtain ⟨m1, m2⟩ := q1.more q2
  rw [e0, Option.bind_some, e1, Option.bind_some, if_pos (by simp; omega), List.nil_append, pick_f (I64.of h4) (by omega), Option.bind_some, if_pos (by omega), wrap_id (x := pickP a4 257 - 1) (by omega) (by omega), e2, Option.bind_some]
  have := parts_l0 Hh Hc q1 m1 m2 h.length 1000 0 (by omega) (by omega) (by omega)
  simpa [noise] using this

end Go.Proofs.Ytgaepndbfpfniaa.Pure
