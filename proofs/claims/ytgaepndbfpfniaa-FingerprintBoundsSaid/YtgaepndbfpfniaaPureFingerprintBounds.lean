/- The plain law FingerprintBounds over the printed functions; no condition but the numbers' kinds and the lists' lengths. -/
import Derived.Test.YtgaepndbfpfniaaPFBx24
import Derived.Test.YtgaepndbfpfniaaFH
namespace Go.Proofs.Ytgaepndbfpfniaa.Pure
open Go.RowKit Go.Proofs.Ytgaepndbfpfniaa.PFB Go.Proofs.YtgaepndbfpfniaaW.PrintWords Go.Proofs.YtgaepndbfpfniaaW.PrintLast

theorem low_l1 {a2 a3 : Int} (A2 : I64 a2) (A3 : I64 a3) {h c : List Int} {T : List (List Int)} {n : Int} {less : List (List Int)} {i : Nat} (hi : i < T.length) (hT : T.length ≤ 100) (hr : (rd_L1 T (i : Int)).length ≤ 100) (hv : ∀ x ∈ rd_L1 T (i : Int), 0 ≤ x ∧ x ≤ 1000) (hl : less.length ≤ 1000)
    {b0 b1 b2 m0 m1 m2 m3 : Int} {ops : List Int} {R : Bool} {F : Nat}
    (hF : ∀ k, F ≤ k → airchecklaw36_FingerprintBounds.l0 k a2 a3 h c T n (less ++ [lowR (pickP a3 8) (pickP a2 100) (rd_L1 T (i : Int))]) ((i + 1 : Nat) : Int) b0 b1 b2 m0 m1 m2 m3 ops = some R) (d : Nat) :
    ∀ (k j : Nat), j ≤ (rd_L1 T (i : Int)).length → (rd_L1 T (i : Int)).length - j = d → d + F + 1 ≤ k →
      airchecklaw36_FingerprintBounds.l1 k a2 a3 h c T n less (i : Int) ((lowR (pickP a3 8) (pickP a2 100) (rd_L1 T (i : Int))).take j) (j : Int) b0 b1 b2 m0 m1 m2 m3 ops = some R := by
  have p8 := pickP_in (a := a3) (n := 8) (by omega)
  have p100 := pickP_in (a := a2) (n := 100) (by omega)
  induction d with
  | zero =>
    intro k j h1 h2 hk
    obtain ⟨k, rfl⟩ : ∃ m, k = m + 1 := ⟨k - 1, by omega⟩
    rw [airchecklaw36_FingerprintBounds.l1, if_pos (by omega), if_pos (by omega), if_neg (by omega), if_pos (by omega), List.take_of_length_le (by unfold lowR; simp; omega), wrap_id (by omega) (by omega)]
    exact hF k (by omega)
  | succ d ih =>
    intro k j h1 h2 hk
    obtain ⟨k, rfl⟩ : ∃ m, k = m + 1 := ⟨k - 1, by omega⟩
    have hj : j < (rd_L1 T (i : Int)).length := by omega
    have v := hv _ (rd_mem hj)
    have e1 : wrap64 (mn (rd (rd_L1 T (i : Int)) (j : Int)) (pickP a3 8) - pickP a2 100) = mn (rd (rd_L1 T (i : Int)) (j : Int)) (pickP a3 8) - pickP a2 100 := wrap_id (by unfold mn; split <;> omega) (by unfold mn; split <;> omega)
    have e2 : (lowR (pickP a3 8) (pickP a2 100) (rd_L1 T (i : Int))).take j ++ [mn (rd (rd_L1 T (i : Int)) (j : Int)) (pickP a3 8) - pickP a2 100] = (lowR (pickP a3 8) (pickP a2 100) (rd_L1 T (i : Int))).take (j + 1) := by
      rw [List.take_succ_eq_append_getElem (by unfold lowR; simpa using hj)]
      congr 2
      unfold lowR
      rw [List.getElem_map, rd_get hj]
    rw [airchecklaw36_FingerprintBounds.l1, if_pos (by omega), if_pos (by omega), if_pos (by omega), if_pos (by omega), pick_f A3 (by omega), Option.bind_some, pick_f A2 (by omega), Option.bind_some, if_pos (by simp; omega), e1, e2, show wrap64 ((j : Int) + 1) = ((j + 1 : Nat) : Int) by rw [wrap_id (by omega) (by omega)]; omega]
    exact ih k (j + 1) (by omega) (by omega) (by omega)
theorem low_l0 {a2 a3 : Int} (A2 : I64 a2) (A3 : I64 a3) {h c : List Int} {T : List (List Int)} {n : Int} (hT : T.length ≤ 100) (hr : ∀ i < T.length, (rd_L1 T (i : Int)).length ≤ 100) (hv : ∀ i < T.length, ∀ x ∈ rd_L1 T (i : Int), 0 ≤ x ∧ x ≤ 1000)
    {b0 b1 b2 m0 m1 m2 m3 : Int} {ops : List Int} {R : Bool} {F : Nat}
    (hF : ∀ k, F ≤ k → airchecklaw36_FingerprintBounds.l0 k a2 a3 h c T n (lowT (pickP a3 8) (pickP a2 100) T) (T.length : Int) b0 b1 b2 m0 m1 m2 m3 ops = some R) (d : Nat) :
    ∀ (k i : Nat), i ≤ T.length → T.length - i = d → 200 * d + F ≤ k →
      airchecklaw36_FingerprintBounds.l0 k a2 a3 h c T n ((lowT (pickP a3 8) (pickP a2 100) T).take i) (i : Int) b0 b1 b2 m0 m1 m2 m3 ops = some R := by
  induction d with
  | zero =>
    intro k i h1 h2 hk
    obtain rfl : i = T.length := by omega
    rw [List.take_of_length_le (by unfold lowT; simp)]
    exact hF k (by omega)
  | succ d ih =>
    intro k i h1 h2 hk
    obtain ⟨k, rfl⟩ : ∃ m, k = m + 1 := ⟨k - 1, by omega⟩
    have hi : i < T.length := by omega
    have e2 : (lowT (pickP a3 8) (pickP a2 100) T).take i ++ [lowR (pickP a3 8) (pickP a2 100) (rd_L1 T (i : Int))] = (lowT (pickP a3 8) (pickP a2 100) T).take (i + 1) := by
      rw [List.take_succ_eq_append_getElem (by unfold lowT; simpa using hi)]
      congr 2
      unfold lowT
      rw [List.getElem_map]
      congr 1
      unfold rd_L1
      rw [Int.toNat_natCast, List.getD_eq_getElem?_getD, List.getElem?_eq_getElem hi]
      rfl
    rw [airchecklaw36_FingerprintBounds.l0, if_pos (by omega)]
    have := low_l1 A2 A3 hi hT (hr i hi) (hv i hi) (less := (lowT (pickP a3 8) (pickP a2 100) T).take i) (by simp; omega) (n := n) (h := h) (c := c) (b0 := b0) (b1 := b1) (b2 := b2) (m0 := m0) (m1 := m1) (m2 := m2) (m3 := m3) (ops := ops) (R := R) (F := 200 * d + F) (fun k hk => by rw [e2]; exact ih k (i + 1) (by omega) (by omega) hk) (rd_L1 T (i : Int)).length k 0 (by omega) (by omega) (by have := hr i hi; omega)
    simpa using this
theorem big_k : ∃ K0 : Nat, 199999 ≤ K0 ∧ ∀ m, m ≤ 61 → 200 * m + 60000 ≤ K0 := ⟨199999, Nat.le_refl _, fun m hm => by omega⟩
theorem FingerprintBounds : airchecklaw36_FingerprintBounds.Pure := by
  intro l0 l1 a2 a3 b0 b1 b2 m0 m1 m2 m3 ops h0 h1 h2 h3 h4 h5
  have A2 := I64.of h2
  have A3 := I64.of h3
  have B0 : I64 b0 := I64.of h4.1
  have B1 : I64 b1 := I64.of h4.2.1
  obtain ⟨K0, hK0, hK1⟩ := big_k
  refine ⟨K0 + 1, ?_⟩
  obtain ⟨h, hh⟩ : ∃ a, a = codes2P l0 := ⟨_, rfl⟩
  obtain ⟨c, hc⟩ : ∃ a, a = codesP l1 := ⟨_, rfl⟩
  have Hh : Hd h := hh ▸ codes2_hd l0
  have Hc : Pr c := hc ▸ (codes_pr l1).1
  have hh1 := Hh.1
  have hc1 := Hc.2.1
  obtain ⟨T, hTd⟩ : ∃ T, T = fp_rowsP h c true := ⟨_, rfl⟩
  have hTl : T.length = h.length + 1 := by rw [hTd]; exact rows_len h c
  have hT61 : T.length ≤ 61 := by omega
  have hT100 : T.length ≤ 100 := by omega
  have K : Keeps h c T 0 := hTd ▸ rows_keep hh1 hc1
  have eT : fingerprint_Table.f h c = some (T, 0) := by
    unfold fingerprint_Table.f
    have e1 := heard_f Hh
    have e2 := isPrint_f Hc
    unfold fingerprint_Heard.f at e1
    unfold fingerprint_isPrint.f at e2
    rw [if_pos ⟨Option.some.inj e1, Option.some.inj e2⟩, hTd]
  obtain ⟨i, j, n, os, e1, b⟩ := align_f Hh Hc (k := K0 + 1) (by omega)
  obtain ⟨n', en, hn'⟩ := cost_row h c
  obtain rfl := b.cost.eq hn'
  have eL : rd_L1 T (h.length : Int) = rowG fr h.reverse [] c := by rw [hTd, rows_get hh1 hc1 (Nat.le_refl _), List.take_of_length_le (Nat.le_refl _)]
  have eB : fingerprint_Bound.f (K0 + 1) h c T = some ((n : Int), true) := by
    rcases bound_f Hh Hc T (by omega) (k := K0 + 1) (by omega) with ⟨_, m, e, em⟩ | ⟨q, _⟩
    · rw [eL, en] at em
      rw [e, ← Option.some.inj em]
    · exact absurd K q
  obtain ⟨q, hq⟩ : ∃ q, q = pickP a3 8 := ⟨_, rfl⟩
  obtain ⟨p, hp⟩ : ∃ p, p = pickP a2 100 := ⟨_, rfl⟩
  have q8 := pickP_in (a := a3) (n := 8) (by omega)
  have p100 := pickP_in (a := a2) (n := 100) (by omega)
  rw [← hq] at q8
  rw [← hp] at p100
  have hrow : ∀ i < T.length, (rd_L1 T (i : Int)).length = c.length + 1 := fun i hi => by have := K.rows i (by omega) (by omega); omega
  have hvals : ∀ i < T.length, ∀ x ∈ rd_L1 T (i : Int), 0 ≤ x ∧ x ≤ 1000 := fun i hi x hx => by
    obtain ⟨j, hj, ej⟩ := List.getElem_of_mem hx
    have hl := hrow i hi
    have e := rows_tv hh1 hc1 (i := i) (j := j) (by omega) (by omega)
    rw [← hTd] at e
    have k2 := (K.cells i (by omega) (by omega) j (by omega) (by omega)).2.1
    rw [e] at k2
    unfold tv at e
    rw [rd_get hj, ej] at e
    rw [e]
    omega
  have KL : Keeps h c (lowT q p T) 0 := low_keep K q8.1 p100.1 (by omega) (fun i j r0 r1 s0 s1 => by
    obtain ⟨i, rfl⟩ : ∃ x : Nat, i = x := ⟨i.toNat, by omega⟩
    obtain ⟨j, rfl⟩ : ∃ x : Nat, j = x := ⟨j.toNat, by omega⟩
    have := hvals i (by omega) _ (rd_mem (j := j) (by rw [hrow i (by omega)]; omega))
    unfold tv
    omega)
  have hLl : (lowT q p T).length = T.length := by unfold lowT; simp
  obtain ⟨i1, j1, hij1, hj1, en1⟩ := hn'.at
  have ed1 : Ed h ((c.take j1).drop i1) n := by rw [← en1]; exact lev_ed _ _
  -- what is put into it
  have stop : stop_airchecklaw36_FingerprintBounds h c n (lowT q p T) b0 b1 b2 m0 m1 m2 m3 ops = some true := by
    unfold stop_airchecklaw36_FingerprintBounds
    have r0 := pickP_in (a := b0) (n := ((lowT q p T).length : Int)) (by omega)
    rw [pick_f B0 (by omega), Option.bind_some, if_pos r0]
    obtain ⟨x, hx⟩ : ∃ x : Nat, (x : Int) = pickP b0 ((lowT q p T).length : Int) := ⟨(pickP b0 ((lowT q p T).length : Int)).toNat, by omega⟩
    rw [← hx, Int.toNat_natCast]
    have hrl : ((lowT q p T).getD x []).length = c.length + 1 := by
      have := KL.rows (x : Int) (by omega) (by omega)
      unfold rd_L1 at this
      rw [Int.toNat_natCast] at this
      omega
    have r1 := pickP_in (a := b1) (n := (((lowT q p T).getD x []).length : Int)) (by omega)
    rw [pick_f B1 (by omega), Option.bind_some, if_pos r1]
    obtain ⟨y, hy⟩ : ∃ y : Nat, (y : Int) = pickP b1 (((lowT q p T).getD x []).length : Int) := ⟨(pickP b1 (((lowT q p T).getD x []).length : Int)).toNat, by omega⟩
    rw [← hy, Int.toNat_natCast]
    obtain ⟨T2, hT2⟩ : ∃ T2, T2 = (lowT q p T).set x (((lowT q p T).getD x []).set y b2) := ⟨_, rfl⟩
    rw [← hT2]
    have hT2l : T2.length = h.length + 1 := by rw [hT2, List.length_set]; omega
    obtain ⟨o2, eo⟩ : ∃ o, airchecklaw36_few.f ops 40 = some o ∧ o.length ≤ 40 := by
      refine ⟨ops.take 40, ?_, by simp; omega⟩
      unfold airchecklaw36_few.f
      rw [if_pos (by unfold mn; split <;> omega), if_pos (by unfold mn; split <;> omega)]
      congr 1
      unfold mn
      split
      · rfl
      · rw [List.take_of_length_le (by omega), List.take_of_length_le (by omega)]
    have ec := check_f Hh Hc m0 m1 m2 m3 o2 (by omega) (k := 100000) (by omega)
    have fin : ∀ b : Int × Bool, (b.2 = true → ∀ i j m : Nat, j ≤ c.length → Ed h ((c.take j).drop i) m → b.1 ≤ m) →
        (if (b.2 = true → b.1 ≤ (n : Int)) ∧ ((if 0 ≤ m1 ∧ m1 ≤ m2 ∧ m2 ≤ (c.length : Int) then chkB 0 m3 (chk o2 h ((c.take m2.toNat).drop m1.toNat)) else false) = true → (n : Int) ≤ m3 ∧ (b.2 = true → b.1 ≤ m3)) then some true else none) = some true := by
      intro b hb
      rw [if_pos]
      refine ⟨fun z => hb z i1 j1 n hj1 ed1, fun z => ?_⟩
      obtain ⟨i2, j2, n2, f1, f2, f3, f4, f5, o⟩ := check_true z
      have := hn'.le f4
      have := lev_le o.ed
      exact ⟨by omega, fun z => by have := hb z i2 j2 n2 f5 o.ed; omega⟩
    rcases bound_f Hh Hc T2 (by omega) (k := 100000) (by omega) with ⟨K2, m, e, em⟩ | ⟨_, e⟩
    · rw [e, Option.bind_some, eo.1, Option.bind_some, ec, Option.bind_some]
      exact fin (m, true) (fun _ i j m' hj ed => K2.least (by omega) em hj ed)
    · rw [e, Option.bind_some, eo.1, Option.bind_some, ec, Option.bind_some]
      exact fin (0, false) (fun z => by cases z)
  unfold airchecklaw36_FingerprintBounds.f
  rw [codes2_f (by have := h0.2.1; omega) (fun x hx => I64.of (h0.2.2 x hx)) (by omega), codes_f (by have := h1.2.1; omega) (fun x hx => I64.of (h1.2.2 x hx)) (by omega), ← hh, ← hc]
  simp only [airchecklaw36_sane.f, Option.bind_some, if_true]
  rw [eT, Option.bind_some, eB, Option.bind_some, e1, Option.bind_some, if_pos rfl, if_pos rfl, if_pos rfl, if_pos rfl]
  have w1 : wrap64 ((h.length : Int) + 1) = (T.length : Int) := by rw [wrap_id (by omega) (by omega)]; omega
  rw [w1, show (((T.length : Int) != (T.length : Int)) : Bool) = false by simp]
  rw [airchecklaw36_FingerprintBounds.j0, if_neg (by simp)]
  have hfin : ∀ k, 60000 ≤ k → airchecklaw36_FingerprintBounds.l0 k a2 a3 h c T (n : Int) (lowT (pickP a3 8) (pickP a2 100) T) (T.length : Int) b0 b1 b2 m0 m1 m2 m3 ops = some true := by
    intro k hk
    obtain ⟨k, rfl⟩ : ∃ m, k = m + 2 := ⟨k - 2, by omega⟩
    rw [← hq, ← hp, airchecklaw36_FingerprintBounds.l0, if_neg (by omega)]
    rcases bound_f Hh Hc (lowT q p T) (by omega) (k := k + 1) (by omega) with ⟨K2, m, e, em⟩ | ⟨z, _⟩
    · have := K2.least (by omega) em hj1 ed1
      rw [e, Option.bind_some, if_pos rfl, decide_eq_false (by omega), airchecklaw36_FingerprintBounds.j3, if_neg (by simp)]
      exact stop
    · exact absurd KL z
  have h1 : ∀ i < T.length, (rd_L1 T (i : Int)).length ≤ 100 := fun i hi => by have := hrow i hi; omega
  have h3 := hK1 _ hT61
  have q := low_l0 A2 A3 (h := h) (c := c) (T := T) (n := (n : Int)) (b0 := b0) (b1 := b1) (b2 := b2) (m0 := m0) (m1 := m1) (m2 := m2) (m3 := m3) (ops := ops) (R := true) (F := 60000) hT100 h1 hvals hfin T.length K0 0 (Nat.zero_le _) (Nat.sub_zero _) h3
  exact q

end Go.Proofs.Ytgaepndbfpfniaa.Pure
