/- The plain theory of fingerprints, on; no condition. -/
import Derived.Test.YtgaepndbfpfniaaFD
namespace Go.Proofs.Ytgaepndbfpfniaa.PFR
open Go.RowKit Go.Proofs.YtgaepndbfpfniaaW.PrintWords Go.Proofs.YtgaepndbfpfniaaW.PrintLast Go.Proofs.YtgaepndbfpfniaaW.PrintMore
/-! The best match of one print. -/
theorem index_l0 (l : List Int) (hl : l.length ≤ 1000) (v : Int) (d : Nat) : ∀ (k i : Nat), i ≤ l.length → l.length - i = d → d + 1 ≤ k → (∀ j (h : j < l.length), j < i → l[j] ≠ v) →
    (∃ (t : Nat) (h : t < l.length), slices_Index_int_int.l0 k l v (l.length : Int) (i : Int) = some (t : Int) ∧ l[t] = v ∧ ∀ j (h : j < l.length), j < t → l[j] ≠ v) ∨
      (slices_Index_int_int.l0 k l v (l.length : Int) (i : Int) = some (-1) ∧ ∀ j (h : j < l.length), l[j] ≠ v) := by
  induction d with
  | zero =>
    intro k i h1 h2 h3 hb
    obtain ⟨k, rfl⟩ : ∃ m, k = m + 1 := ⟨k - 1, by omega⟩
    refine .inr ⟨?_, fun j h => hb j h (by omega)⟩
    simp only [slices_Index_int_int.l0]
    rw [if_neg (by omega)]
  | succ d ih =>
    intro k i h1 h2 h3 hb
    obtain ⟨k, rfl⟩ : ∃ m, k = m + 1 := ⟨k - 1, by omega⟩
    have hc : i < l.length := by omega
    simp only [slices_Index_int_int.l0]
    rw [if_pos (by omega), if_pos (by omega), if_pos (by omega), rd_get hc]
    by_cases c : v = l[i]
    · rw [if_pos c]
      exact .inl ⟨i, hc, rfl, c.symm, hb⟩
    · rw [if_neg c, wrap_up hc (by omega)]
      refine ih k (i + 1) (by omega) (by omega) (by omega) (fun j h hj => ?_)
      by_cases e : j = i
      · subst e; exact fun h => c h.symm
      · exact hb j h (by omega)
theorem index_f (l : List Int) (hl : l.length ≤ 1000) (v : Int) {k : Nat} (hk : l.length + 1 ≤ k) :
    (∃ (t : Nat) (h : t < l.length), slices_Index_int_int.f k l v = some (t : Int) ∧ l[t] = v ∧ ∀ j (h : j < l.length), j < t → l[j] ≠ v) ∨ (slices_Index_int_int.f k l v = some (-1) ∧ ∀ j (h : j < l.length), l[j] ≠ v) :=
  index_l0 l hl v l.length k 0 (by omega) (by omega) hk (fun j _ hj => absurd hj (by omega))
theorem drop_take (c : List Int) (i t : Nat) : (c.drop i).take t = (c.take (i + t)).drop i := by
  rw [List.drop_take]; congr 1; omega
/-- what Align answers -/
structure Best1 (h c : List Int) (i j n : Nat) (ops : List Int) : Prop where
  cost : IsCost h c n
  ij : i ≤ j
  jc : j ≤ c.length
  ops : Ops h ((c.take j).drop i) ops n
  lev : lev h ((c.take j).drop i) = n
  first : ∀ i' j', i' ≤ j' → j' ≤ c.length → PFR.lev h ((c.take j').drop i') = n → i < i' ∨ (i = i' ∧ j ≤ j')
theorem IsCost.le {h c : List Int} {n i j : Nat} (hn : IsCost h c n) (hij : i ≤ j) : n ≤ lev h ((c.take j).drop i) := hn.2 _ _ _ _ (cut_parts hij) (lev_ed _ _)
theorem IsCost.at {h c : List Int} {n : Nat} (hn : IsCost h c n) : ∃ i j, i ≤ j ∧ j ≤ c.length ∧ lev h ((c.take j).drop i) = n := by
  have hn' := hn
  obtain ⟨⟨p, q, s, e, d⟩, _⟩ := hn'
  have hq : (c.take (p.length + q.length)).drop p.length = q := by
    rw [e, List.take_append_of_le_length (by simp), List.take_of_length_le (by simp), List.drop_append_of_le_length (by simp), List.drop_of_length_le (by simp), List.nil_append]
  refine ⟨p.length, p.length + q.length, by omega, by rw [e]; simp, ?_⟩
  have h1 := hn.le (i := p.length) (j := p.length + q.length) (by omega)
  rw [hq] at h1 ⊢
  have := lev_le d
  omega
theorem row_at {h c : List Int} {i t : Nat} (ht : t < (rowG (tabD false) h.reverse [] (c.drop i)).length) : (rowG (tabD false) h.reverse [] (c.drop i))[t] = (lev h ((c.take (i + t)).drop i) : Int) := by
  have h1 := ht
  rw [rowG_length] at h1
  have h2 := rowG_get (tabD false) h.reverse (c.drop i) [] t (by omega)
  rw [List.getElem?_eq_getElem ht, List.append_nil] at h2
  rw [Option.some.inj h2, drop_take]
  show (lev h.reverse ((c.take (i + t)).drop i).reverse : Int) = _
  rw [lev_rev]
theorem align_l0 {h c : List Int} {n : Nat} (Hh : Hd h) (Hc : Pr c) (hn : IsCost h c n) (d : Nat) : ∀ (k i : Nat), i ≤ c.length + 1 → c.length + 1 - i = d → d + 100 ≤ k →
    (∀ i' j', i' < i → i' ≤ j' → j' ≤ c.length → lev h ((c.take j').drop i') ≠ n) →
    ∃ (i2 j2 : Nat) (ops : List Int), fingerprint_Align.l0 k h c (n : Int) ((c.length : Int) + 1) (i : Int) = some (0, (i2 : Int), (j2 : Int), (n : Int), ops, 0) ∧ Best1 h c i2 j2 n ops ∧ fingerprint_steps.f h ((c.take j2).drop i2) = some ops := by
  have hh := Hh.1
  have hc := Hc.2.1
  induction d with
  | zero =>
    intro k i h1 h2 h3 hb
    obtain ⟨i', j', e1, e2, e3⟩ := hn.at
    exact absurd e3 (hb i' j' (by omega) e1 e2)
  | succ d ih =>
    intro k i h1 h2 h3 hb
    obtain ⟨k, rfl⟩ : ∃ m, k = m + 1 := ⟨k - 1, by omega⟩
    simp only [fingerprint_Align.l0]
    rw [if_pos (by omega), if_pos (by omega), if_pos (by omega), Int.toNat_natCast, last_f hh (by simp; omega), Option.bind_some]
    have hrl := rowG_length (tabD false) h.reverse (c.drop i) []
    rw [List.length_drop] at hrl
    rcases index_f (rowG (tabD false) h.reverse [] (c.drop i)) (by omega) (n : Int) (k := k) (by omega) with ⟨t, ht, e, et, em⟩ | ⟨e, em⟩
    · rw [e, Option.bind_some, if_pos (by omega), wrap_id (x := (i : Int) + t) (by omega) (by omega), if_pos (by omega), if_pos (by omega)]
      rw [show ((i : Int) + t) = ((i + t : Nat) : Int) by omega, Int.toNat_natCast]
      rw [row_at ht] at et
      have et' : lev h ((c.take (i + t)).drop i) = n := by omega
      obtain ⟨s, es, os⟩ := steps_f (h := h) (p := (c.take (i + t)).drop i) hh (by simp; omega)
      refine ⟨i, i + t, s, by rw [es]; rfl, ⟨hn, by omega, by omega, et' ▸ os, et', fun i' j' q1 q2 q3 => ?_⟩, es⟩
      by_cases c1 : i' < i
      · exact absurd q3 (hb i' j' c1 q1 q2)
      · by_cases c2 : i = i'
        · refine .inr ⟨c2, ?_⟩
          subst c2
          apply Nat.le_of_not_lt
          intro c3
          refine em (j' - i) (by omega) (by omega) ?_
          rw [row_at (by omega), show i + (j' - i) = j' by omega, q3]
        · exact .inl (by omega)
    · rw [e, Option.bind_some, if_neg (by omega), show wrap64 ((i : Int) + 1) = ((i + 1 : Nat) : Int) by rw [wrap_id (by omega) (by omega)]; omega]
      refine ih k (i + 1) (by omega) (by omega) (by omega) (fun i' j' q0 q1 q2 q3 => ?_)
      by_cases c1 : i' < i
      · exact hb i' j' c1 q1 q2 q3
      · obtain rfl : i' = i := by omega
        refine em (j' - i') (by omega) ?_
        rw [row_at (by omega), show i' + (j' - i') = j' by omega, q3]
theorem align_f {h c : List Int} (Hh : Hd h) (Hc : Pr c) {k : Nat} (hk : 200 ≤ k) : ∃ (i j n : Nat) (ops : List Int), fingerprint_Align.f k h c = some (0, (i : Int), (j : Int), (n : Int), ops, 0) ∧ Best1 h c i j n ops ∧ fingerprint_steps.f h ((c.take j).drop i) = some ops := by
  obtain ⟨n, e, hn⟩ := cost_f Hh Hc (k := k) (by omega)
  have hc := Hc.2.1
  obtain ⟨i, j, ops, e1, b⟩ := align_l0 Hh Hc hn (c.length + 1) k 0 (by omega) (by omega) (by omega) (fun i' j' q => absurd q (by omega))
  refine ⟨i, j, n, ops, ?_, b⟩
  unfold fingerprint_Align.f
  rw [e, Option.bind_some, if_pos rfl, wrap_id (by omega) (by omega)]
  exact e1
/-! ### the reference's Align -/
theorem ralign_try {h c : List Int} (hh : h.length ≤ 60) (hc : c.length ≤ 60) {i j : Nat} (hij : i ≤ j) (hj : j ≤ c.length) {k : Nat} (hk : 4000 ≤ k) (n : Int) :
    aircheckref36_Align.l1 (k + 1) h c n (i : Int) (j : Int) = if (lev h ((c.take j).drop i) : Int) = n then (fingerprint_steps.f h ((c.take j).drop i)).bind fun o => some (0, (i : Int), (j : Int), n, o, 0) else aircheckref36_Align.l1 k h c n (i : Int) ((j + 1 : Nat) : Int) := by
  have hp : ((c.take j).drop i).length ≤ 60 := by simp; omega
  have h0 := restP_row h ((c.take j).drop i) (i := 0) (Nat.zero_le _)
  have h1 := restP_rd h ((c.take j).drop i) (i := 0) (j := 0) (Nat.zero_le _) (Nat.zero_le _)
  rw [show ((0 : Nat) : Int) = 0 from rfl] at h0 h1
  have hw : wrap64 ((j : Int) + 1) = ((j + 1 : Nat) : Int) := by rw [wrap_id (by omega) (by omega)]; omega
  have hr := rest_f hh hp hk
  have ho := rops_f hh hp hk
  have hl := restP_length h ((c.take j).drop i)
  simp only [aircheckref36_Align.l1]
  rw [if_pos (by omega), if_pos (by omega), if_pos (by omega), Int.toNat_natCast, Int.toNat_natCast, hr, Option.bind_some, hl, if_pos (by omega), h0, if_pos (by omega), h1, hw, ho]
  rfl
theorem ralign_skip {h c : List Int} {n : Nat} (hh : h.length ≤ 60) (hc : c.length ≤ 60) (i : Nat) (hno : ∀ j, i ≤ j → j ≤ c.length → lev h ((c.take j).drop i) ≠ n) : ∀ (d j q : Nat), c.length + 1 - j = d → i ≤ j → j ≤ c.length + 1 → 4000 ≤ q → aircheckref36_Align.l1 (q + d + 1) h c (n : Int) (i : Int) (j : Int) = aircheckref36_Align.l0 q h c (n : Int) ((i + 1 : Nat) : Int)
  | 0, j, q, hd, hij, hj, hq => by
    simp only [aircheckref36_Align.l1]
    rw [if_neg (by omega), wrap_id (by omega) (by omega)]
    rfl
  | d + 1, j, q, hd, hij, hj, hq => by
    rw [show q + (d + 1) + 1 = (q + d + 1) + 1 by omega, ralign_try hh hc hij (by omega) (by omega), if_neg (by have := hno j hij (by omega); omega)]
    exact ralign_skip hh hc i hno d (j + 1) q (by omega) (by omega) (by omega) hq
theorem ralign_hit {h c : List Int} {n i j2 : Nat} {ops : List Int} (hh : h.length ≤ 60) (hc : c.length ≤ 60) (hj2 : j2 ≤ c.length) (hno : ∀ j, i ≤ j → j < j2 → lev h ((c.take j).drop i) ≠ n) (hyes : lev h ((c.take j2).drop i) = n) (hs : fingerprint_steps.f h ((c.take j2).drop i) = some ops) : ∀ (d j q : Nat), j2 - j = d → i ≤ j → j ≤ j2 → 4000 ≤ q → aircheckref36_Align.l1 (q + d + 1) h c (n : Int) (i : Int) (j : Int) = some (0, (i : Int), (j2 : Int), (n : Int), ops, 0)
  | 0, j, q, hd, hij, hj, hq => by
    obtain rfl : j = j2 := by omega
    rw [ralign_try hh hc hij (by omega) (by omega), if_pos (by omega), hs]
    rfl
  | d + 1, j, q, hd, hij, hj, hq => by
    rw [show q + (d + 1) + 1 = (q + d + 1) + 1 by omega, ralign_try hh hc hij (by omega) (by omega), if_neg (by have := hno j hij (by omega); omega)]
    exact ralign_hit hh hc hj2 hno hyes hs d (j + 1) q (by omega) (by omega) (by omega) hq
theorem ralign_l0 {h c : List Int} {n i2 j2 : Nat} {ops : List Int} (hh : h.length ≤ 60) (hc : c.length ≤ 60) (b : Best1 h c i2 j2 n ops) (hs : fingerprint_steps.f h ((c.take j2).drop i2) = some ops) (d : Nat) : ∀ (i q : Nat), i2 - i = d → i ≤ i2 → 100 * d + 4100 ≤ q → aircheckref36_Align.l0 q h c (n : Int) (i : Int) = some (0, (i2 : Int), (j2 : Int), (n : Int), ops, 0) := by
  have h1 := b.ij
  have h2 := b.jc
  induction d with
  | zero =>
    intro i q hd hi hq
    have e : i = i2 := by omega
    subst e
    obtain ⟨r, hr⟩ : ∃ r, q = (r + (j2 - i) + 1) + 1 := ⟨q - (j2 - i) - 2, by omega⟩
    have hr4 : 4000 ≤ r := by omega
    clear hq
    subst hr
    rw [aircheckref36_Align.l0, if_pos (by omega)]
    exact ralign_hit hh hc h2 (fun j q1 q2 q3 => by rcases b.first i j q1 (by omega) q3 with w | w <;> omega) b.lev hs (j2 - i) i r rfl (Nat.le_refl _) h1 hr4
  | succ d ih =>
    intro i q hd hi hq
    obtain ⟨r, hr⟩ : ∃ r, q = (r + (c.length + 1 - i) + 1) + 1 := ⟨q - (c.length + 1 - i) - 2, by omega⟩
    have hr4 : 100 * d + 4100 ≤ r := by clear ih hs b h1 h2 hh; omega
    clear hq
    subst hr
    have hno : ∀ j, i ≤ j → j ≤ c.length → lev h ((c.take j).drop i) ≠ n := fun j q1 q2 q3 => by rcases b.first i j q1 q2 q3 with w | w <;> omega
    obtain ⟨e, he⟩ : ∃ e, c.length + 1 - i = e := ⟨_, rfl⟩
    have hr5 : 4000 ≤ r := by omega
    have hic : i ≤ c.length := by omega
    have hsk := ralign_skip hh hc i hno e i r he (Nat.le_refl _) (by omega) hr5
    rw [he, aircheckref36_Align.l0, if_pos (by omega)]
    refine hsk.trans ?_
    exact ih (i + 1) r (by omega) (by omega) hr4
theorem ralign_f (h c : List Int) {k : Nat} (hk : 20000 ≤ k) : aircheckref36_Align.f k h c = fingerprint_Align.f k h c := by
  unfold aircheckref36_Align.f
  rw [rcost_f h c (by omega)]
  by_cases hab : fp_heardB h = true ∧ fp_printB c = true
  · have Hh := heardB_hd hab.1
    have Hc := printB_pr hab.2
    obtain ⟨i, j, n, ops, e, b, hs⟩ := align_f Hh Hc (k := k) (by omega)
    obtain ⟨n', e', hn'⟩ := cost_f Hh Hc (k := k) (by omega)
    obtain rfl := b.cost.eq hn'
    rw [e, e', Option.bind_some]
    have h2 := b.jc
    have h3 := Hc.2.1
    have h4 := b.ij
    have := ralign_l0 Hh.1 h3 b hs i 0 k (by omega) (by omega) (by
      have : i ≤ 60 := by omega
      omega)
    show (if (0 : Int) = 0 then _ else _) = _
    rw [if_pos rfl]
    exact this
  · have e := rcost_f h c (k := k) (by omega)
    unfold fingerprint_Align.f
    have hc0 : fingerprint_Cost.f k h c = some (0, 360) := by
      rw [← e]
      unfold aircheckref36_Cost.f
      rw [rtab_f h c (by omega)]
      unfold fingerprint_Table.f
      rw [Option.bind_some, if_neg hab]
      rfl
    rw [hc0]
    rfl
/-! The best match of all prints. -/
noncomputable def cst (h c : List Int) : Nat := (cost_row h c).choose
theorem cst_min (h c : List Int) : slices_Min_int_int.f (rowG fr h.reverse [] c) = some (cst h c : Int) := (cost_row h c).choose_spec.1
theorem cst_is (h c : List Int) : IsCost h c (cst h c) := (cost_row h c).choose_spec.2
def VP : Int → List S34 → Prop
  | _, [] => True
  | a, p :: l => a < p.f0 ∧ p.f0 < 200 ∧ Pr p.f1 ∧ VP p.f0 l
theorem VP.pr : ∀ {a : Int} {l : List S34}, VP a l → ∀ p ∈ l, Pr p.f1
  | _, [], _, p, hp => by simp at hp
  | _, q :: l, h, p, hp => by
    rw [List.mem_cons] at hp
    rcases hp with rfl | hp
    · exact h.2.2.1
    · exact VP.pr h.2.2.2 p hp
theorem VP.snoc {p : S34} (h1 : p.f0 < 200) (h2 : Pr p.f1) : ∀ {a : Int} {l : List S34}, VP a l → a < p.f0 → (∀ q ∈ l, q.f0 < p.f0) → VP a (l ++ [p])
  | a, [], _, ha, _ => ⟨ha, h1, h2, trivial⟩
  | a, q :: l, h, _, hq => ⟨h.1, h.2.1, h.2.2.1, VP.snoc h1 h2 h.2.2.2 (hq q (by simp)) (fun x hx => hq x (by simp [hx]))⟩
theorem rd34 {l : List S34} {i : Nat} (h : i < l.length) : rd_T34 l (i : Int) = l[i] := by simp [rd_T34, h]
theorem valid_l0 (l : List S34) (hl : l.length ≤ 20) (d : Nat) : ∀ (k i : Nat) (a : Int), i ≤ l.length → l.length - i = d → d + 1 ≤ k → VP a (l.drop i) → fingerprint_Valid.l0 k l a l (l.length : Int) (i : Int) = some true := by
  induction d with
  | zero =>
    intro k i a h1 h2 h3 h4
    obtain ⟨k, rfl⟩ : ∃ m, k = m + 1 := ⟨k - 1, by omega⟩
    simp only [fingerprint_Valid.l0]
    rw [if_neg (by omega), decide_eq_true (by omega)]
  | succ d ih =>
    intro k i a h1 h2 h3 h4
    obtain ⟨k, rfl⟩ : ∃ m, k = m + 1 := ⟨k - 1, by omega⟩
    have hc : i < l.length := by omega
    rw [List.drop_eq_getElem_cons hc] at h4
    obtain ⟨q1, q2, q3, q4⟩ := h4
    simp only [fingerprint_Valid.l0]
    rw [if_pos (by omega), if_pos (by omega), if_pos (by omega), rd34 hc, if_neg (by omega), if_neg (by omega), isPrint_f q3, Option.bind_some, if_pos rfl, show wrap64 ((i : Int) + 1) = ((i + 1 : Nat) : Int) by rw [wrap_id (by omega) (by omega)]; omega]
    exact ih k (i + 1) _ (by omega) (by omega) (by omega) q4
theorem valid_f {l : List S34} (hl : l.length ≤ 20) (h : VP (-1) l) {k : Nat} (hk : 21 ≤ k) : fingerprint_Valid.f k l = some true := valid_l0 l hl l.length k 0 (-1) (by omega) (by omega) (by omega) h
noncomputable def costs (h : List Int) (l : List S34) : List Nat := l.map (fun p => cst h p.f1)
theorem costsO_f {h : List Int} (Hh : Hd h) : ∀ {l : List S34}, (∀ p ∈ l, Pr p.f1) → fp_costsO h l = some ((costs h l).map (fun n : Nat => (n : Int)))
  | [], _ => rfl
  | p :: l, hp => by
    have h1 := hp p (by simp)
    have e : fp_cost1 h p.f1 = some (cst h p.f1 : Int) := by
      unfold fp_cost1
      rw [last_f Hh.1 h1.2.1, Option.bind_some]
      exact cst_min h p.f1
    rw [fp_costsO, e, Option.bind_some, costsO_f Hh (fun q hq => hp q (by simp [hq])), Option.bind_some]
    rfl
theorem eraseIdx_map_ : ∀ (l : List Nat) (b : Nat), (l.map (fun n : Nat => (n : Int))).eraseIdx b = (l.eraseIdx b).map (fun n : Nat => (n : Int))
  | [], b => by simp
  | x :: l, 0 => rfl
  | x :: l, b + 1 => by simp [eraseIdx_map_ l b]
theorem min_f : ∀ (ns : List Nat), ns ≠ [] → ∃ m : Nat, slices_Min_int_int.f (ns.map (fun n : Nat => (n : Int))) = some (m : Int) ∧ m ∈ ns ∧ ∀ x ∈ ns, m ≤ x
  | [], h => absurd rfl h
  | x :: l, _ => by
    obtain ⟨h1, h2⟩ := fp_minF_le (l.map (fun n : Nat => (n : Int))) (x : Int)
    have hm : ∃ m : Nat, fp_minF (x : Int) (l.map (fun n : Nat => (n : Int))) = (m : Int) ∧ m ∈ x :: l := by
      rcases fp_minF_mem (l.map (fun n : Nat => (n : Int))) (x : Int) with h | h
      · exact ⟨x, h, by simp⟩
      · obtain ⟨m, hm, e⟩ := List.mem_map.1 h
        exact ⟨m, e.symm, by simp [hm]⟩
    obtain ⟨m, e, hm⟩ := hm
    refine ⟨m, by rw [List.map_cons, ← e]; rfl, hm, fun y hy => ?_⟩
    rw [List.mem_cons] at hy
    rcases hy with rfl | hy
    · omega
    · have := h2 (y : Int) (List.mem_map.2 ⟨y, hy, rfl⟩)
      omega
/-- what Best answers -/
structure BestP (k : Nat) (h : List Int) (l : List S34) (b i j m : Nat) (ops : List Int) (s : Int) : Prop where
  lt : b < l.length
  cost : cst h (l[b]).f1 = m
  least : ∀ q (hq : q < l.length), m ≤ cst h (l[q]).f1
  first : ∀ q (hq : q < l.length), q < b → cst h (l[q]).f1 ≠ m
  at_ : Best1 h (l[b]).f1 i j m ops
  al : fingerprint_Align.f k h (l[b]).f1 = some (0, (i : Int), (j : Int), (m : Int), ops, 0)
  one : l.length = 1 → s = -1
  second : 1 < l.length → ∃ n : Nat, s = (n : Int) ∧ m ≤ n
  others : 1 < l.length → ∃ q, ∃ hq : q < l.length, q ≠ b ∧ s = (cst h (l[q]).f1 : Int)
  rest : ∀ q (hq : q < l.length), q ≠ b → s ≤ (cst h (l[q]).f1 : Int)
theorem best_f {h : List Int} {l : List S34} (Hh : Hd h) (hv : VP (-1) l) (h1 : 1 ≤ l.length) (h2 : l.length ≤ 20) {k : Nat} (hk : 300 ≤ k) :
    ∃ (b i j m : Nat) (ops : List Int) (s : Int) (hb : b < l.length), fingerprint_Best.f k l h = some ((l[b]).f0, (i : Int), (j : Int), (m : Int), ops, s, 0) ∧ BestP k h l b i j m ops s := by
  have hcl : (costs h l).length = l.length := by simp [costs]
  have hget : ∀ q (hq : q < l.length), (costs h l)[q]'(by rw [hcl]; exact hq) = cst h (l[q]).f1 := fun q hq => by simp [costs]
  obtain ⟨m, em, mm, ml⟩ := min_f (costs h l) (by intro e; rw [e] at hcl; simp at hcl; omega)
  have hix := index_f ((costs h l).map (fun n : Nat => (n : Int))) (by simp; omega) (m : Int) (k := k) (by simp; omega)
  rcases hix with ⟨b, hb, eb, bm, bf⟩ | ⟨_, hn⟩
  · have hb' : b < l.length := by simpa [hcl] using hb
    simp only [List.getElem_map] at bm bf
    rw [hget b hb'] at bm
    have hp := hv.pr l[b] (List.getElem_mem hb')
    obtain ⟨i, j, n, ops, ea, ba, _⟩ := align_f Hh hp (k := k) (by omega)
    have hn : n = m := by have := ba.cost.eq (cst_is h (l[b]).f1); omega
    subst hn
    have hs : ∃ s : Int, fp_second (((costs h l).map (fun n : Nat => (n : Int))).eraseIdx b) = some s ∧ (l.length = 1 → s = -1) ∧ (1 < l.length → ∃ n' : Nat, s = (n' : Int) ∧ n ≤ n') ∧ (1 < l.length → ∃ q, ∃ hq : q < l.length, q ≠ b ∧ s = (cst h (l[q]).f1 : Int)) ∧ (∀ q (hq : q < l.length), q ≠ b → s ≤ (cst h (l[q]).f1 : Int)) := by
      rw [show ((costs h l).map (fun n : Nat => (n : Int))).eraseIdx b = ((costs h l).eraseIdx b).map (fun n : Nat => (n : Int)) from eraseIdx_map_ _ b]
      have hel : ((costs h l).eraseIdx b).length = l.length - 1 := by rw [List.length_eraseIdx_of_lt (by omega), hcl]
      by_cases c : l.length = 1
      · have e0 : (costs h l).eraseIdx b = [] := List.eq_nil_of_length_eq_zero (by omega)
        rw [e0]
        exact ⟨-1, rfl, fun _ => rfl, fun h => absurd h (by omega), fun h => absurd h (by omega), fun q hq hqb => by omega⟩
      · have hne : (costs h l).eraseIdx b ≠ [] := by intro e; rw [e] at hel; simp at hel; omega
        obtain ⟨m2, e2, mm2, ml2⟩ := min_f _ hne
        refine ⟨(m2 : Int), ?_, fun h => absurd h c, fun _ => ⟨m2, rfl, ml _ (List.mem_of_mem_eraseIdx mm2)⟩, fun _ => ?_, fun q hq hqb => ?_⟩
        · rw [← e2]
          generalize (costs h l).eraseIdx b = u at hne
          cases u with
          | nil => exact absurd rfl hne
          | cons => rfl
        · obtain ⟨q, hq, hqb, e⟩ := List.mem_eraseIdx_iff_getElem.1 mm2
          have hq' : q < l.length := by rw [← hcl]; exact hq
          rw [hget q hq'] at e
          exact ⟨q, hq', hqb, by rw [e]⟩
        · have hm : cst h (l[q]).f1 ∈ (costs h l).eraseIdx b := List.mem_eraseIdx_iff_getElem.2 ⟨q, by rw [hcl]; exact hq, hqb, hget q hq⟩
          have := ml2 _ hm
          omega
    obtain ⟨s, es, s1, s2, s3, s4⟩ := hs
    refine ⟨b, i, j, n, ops, s, hb', ?_, hb', by omega, fun q hq => ?_, fun q hq hqb => ?_, ba, ea, s1, s2, s3, s4⟩
    · unfold fingerprint_Best.f
      rw [if_neg (by omega), valid_f h2 hv (by omega), Option.bind_some, if_pos rfl, heard_f Hh, Option.bind_some, if_pos rfl, costsO_f Hh hv.pr, Option.bind_some, em, Option.bind_some, eb, Option.bind_some]
      unfold fp_best2
      rw [if_pos ⟨by omega, by omega, by omega⟩, rd34 hb', ea, Option.bind_some, Int.toNat_natCast, es]
      rfl
    · have := ml _ (List.getElem_mem (by rw [hcl]; exact hq : q < (costs h l).length))
      rw [hget q hq] at this
      exact this
    · have := bf q (by simpa [hcl] using hq) hqb
      rw [hget q hq] at this
      omega
  · obtain ⟨q, hq, e⟩ := List.getElem_of_mem mm
    refine absurd ?_ (hn q (by simpa using hq))
    simp [e]
/-! ### the reference's Best -/
theorem valid_vp (l : List S34) (hl : l.length ≤ 1000) : ∀ (k i : Nat) (a : Int), i ≤ l.length → fingerprint_Valid.l0 k l a l (l.length : Int) (i : Int) = some true → VP a (l.drop i) ∧ l.length ≤ 20
  | 0, i, a, _, h => by cases h
  | k + 1, i, a, hi, h => by
    simp only [fingerprint_Valid.l0] at h
    by_cases g : i < l.length
    · rw [if_pos (by omega), if_pos (by omega), if_pos (by omega), rd34 g, print_b, Option.bind_some, show wrap64 ((i : Int) + 1) = ((i + 1 : Nat) : Int) by rw [wrap_id (by omega) (by omega)]; omega] at h
      split at h
      · cases h
      · split at h
        · cases h
        · split at h
          · next c1 c2 c3 =>
            obtain ⟨v, hv⟩ := valid_vp l hl k (i + 1) _ (by omega) h
            rw [List.drop_eq_getElem_cons g]
            exact ⟨⟨by omega, by omega, printB_pr c3, v⟩, hv⟩
          · cases h
    · rw [if_neg (by omega)] at h
      have := of_decide_eq_true (Option.some.inj h)
      exact ⟨by rw [List.drop_eq_nil_of_le (by omega)]; trivial, by omega⟩
theorem cost_c {h : List Int} {c : List Int} (Hh : Hd h) (Hc : Pr c) {k : Nat} (hk : 10000 ≤ k) : aircheckref36_Cost.f k h c = some ((cst h c : Int), 0) := by
  rw [rcost_f h c hk]
  obtain ⟨n, e, hn⟩ := cost_f Hh Hc (k := k) (by omega)
  rw [e, hn.eq (cst_is h c)]
theorem rbest_l0 {h : List Int} {l : List S34} (Hh : Hd h) (hp : ∀ p ∈ l, Pr p.f1) (h2 : l.length ≤ 20) {b : Nat} (hb : b < l.length) (least : ∀ q (hq : q < l.length), cst h (l[b]).f1 ≤ cst h (l[q]).f1) (first : ∀ q (hq : q < l.length), q < b → cst h (l[q]).f1 ≠ cst h (l[b]).f1) :
    ∀ (d i x q : Nat), x < l.length → l.length - i = d → i ≤ l.length → (i ≤ b → ∀ y (hy : y < l.length), y = x → cst h (l[y]).f1 ≥ cst h (l[b]).f1) → (i = 0 → x = 0) → (0 < i → x < i) → (b < i → x = b) → (i ≤ b → x < b ∨ x = 0) → 10000 ≤ q → aircheckref36_Best.l0 (q + d + 1) l h (x : Int) (i : Int) = aircheckref36_Best.l1 q l h (b : Int) (-1) 0
  | 0, i, x, q, hx, hd, hi, _, _, _, h5, _, hq => by
    simp only [aircheckref36_Best.l0]
    rw [if_neg (by omega), h5 (by omega)]
  | d + 1, i, x, q, hx, hd, hi, h3, h4, h6, h5, h7, hq => by
    have g : i < l.length := by omega
    have c1 := cost_c Hh (hp l[i] (List.getElem_mem g)) (k := q + d + 1) (by omega)
    have c2 := cost_c Hh (hp l[x] (List.getElem_mem hx)) (k := q + d + 1) (by omega)
    rw [show q + (d + 1) + 1 = (q + d + 1) + 1 by omega, aircheckref36_Best.l0]
    rw [if_pos (by omega), if_pos (by omega), rd34 g, rd34 hx, c1, c2, Option.bind_some, if_pos (by omega), if_pos (by omega), Option.bind_some, show wrap64 ((i : Int) + 1) = ((i + 1 : Nat) : Int) by rw [wrap_id (by omega) (by omega)]; omega]
    show (if (cst h (l[i]).f1 : Int) < (cst h (l[x]).f1 : Int) then _ else _) = _
    have hli := least i g
    have hlx := least x hx
    by_cases w : (cst h (l[i]).f1 : Int) < (cst h (l[x]).f1 : Int)
    · rw [if_pos w]
      refine rbest_l0 Hh hp h2 hb least first d (i + 1) i q g (by omega) (by omega) (fun _ y hy e => least y hy) (fun e => by omega) (fun _ => by omega) (fun e => ?_) (fun e => Or.inl (by omega)) hq
      -- b < i + 1
      by_cases e2 : b = i
      · exact e2.symm
      · have := h5 (by omega)
        subst this
        omega
    · rw [if_neg w]
      refine rbest_l0 Hh hp h2 hb least first d (i + 1) x q hx (by omega) (by omega) (fun _ y hy e => least y hy) (fun e => by omega) (fun _ => ?_) (fun e => ?_) (fun e => ?_) hq
      · by_cases e0 : i = 0
        · have := h4 e0; omega
        · have := h6 (by omega); omega
      · by_cases e2 : b = i
        · subst e2
          -- x is not less costly than b, and before b
          rcases h7 (by omega) with e3 | e3
          · exact absurd (by omega) (first x hx e3)
          · by_cases e4 : b = 0
            · omega
            · exact absurd (by omega) (first x hx (by omega))
        · exact h5 (by omega)
      · rcases h7 (by omega) with e3 | e3
        · exact Or.inl e3
        · by_cases e4 : x < b
          · exact Or.inl e4
          · exact Or.inr e3
theorem rbest_l1 {h : List Int} {l : List S34} (Hh : Hd h) (hp : ∀ p ∈ l, Pr p.f1) (h2 : l.length ≤ 20) {b : Nat} (hb : b < l.length) {s : Int} (one : l.length = 1 → s = -1) (others : 1 < l.length → ∃ q, ∃ hq : q < l.length, q ≠ b ∧ s = (cst h (l[q]).f1 : Int)) (rest : ∀ q (hq : q < l.length), q ≠ b → s ≤ (cst h (l[q]).f1 : Int)) (X : Option (Int × Int × Int × Int × List Int × Int × Int)) :
    ∀ (d i q : Nat) (v : Int), l.length - i = d → i ≤ l.length → (v = -1 ∨ (0 ≤ v ∧ s ≤ v ∧ 1 < l.length)) → (v = -1 → ∀ y, y < i → y = b) → (∀ y (hy : y < l.length), y < i → y ≠ b → v ≤ (cst h (l[y]).f1 : Int)) → 10000 ≤ q →
      aircheckref36_Best.l1 (q + d + 1) l h (b : Int) v (i : Int) = (aircheckref36_Align.f q h (l[b]).f1).bind (fun t => some ((l[b]).f0, t.2.1, t.2.2.1, t.2.2.2.1, t.2.2.2.2.1, s, 0))
  | 0, i, q, v, hd, hi, h3, h4, h5, hq => by
    have hli' : l.length ≤ i := by omega
    have hv : v = s := by
      by_cases c : l.length = 1
      · rw [one c]
        rcases h3 with e | e
        · exact e
        · have := one c; omega
      · obtain ⟨y, hy, hyb, es⟩ := others (by omega)
        have hyi : y < i := Nat.lt_of_lt_of_le hy hli'
        have := h5 y hy hyi hyb
        rcases h3 with e | e
        · exact absurd (h4 e y hyi) hyb
        · exact Int.le_antisymm (Int.le_trans this (Int.le_of_eq es.symm)) e.2.1
    subst hv
    simp only [aircheckref36_Best.l1]
    rw [if_neg (by omega), if_pos (by omega), if_pos (by omega), rd34 hb]
  | d + 1, i, q, v, hd, hi, h3, h4, h5, hq => by
    have g : i < l.length := by omega
    have c1 := cost_c Hh (hp l[i] (List.getElem_mem g)) (k := q + d + 1) (by omega)
    rw [show q + (d + 1) + 1 = (q + d + 1) + 1 by omega, aircheckref36_Best.l1]
    rw [if_pos (by omega), if_pos (by omega), rd34 g, c1, Option.bind_some, show wrap64 ((i : Int) + 1) = ((i + 1 : Nat) : Int) by rw [wrap_id (by omega) (by omega)]; omega]
    show (if (i : Int) = (b : Int) then _ else (if v < 0 then aircheckref36_Best.l1 (q + d + 1) l h (b : Int) (cst h (l[i]).f1 : Int) ((i + 1 : Nat) : Int) else (if (cst h (l[i]).f1 : Int) < v then aircheckref36_Best.l1 (q + d + 1) l h (b : Int) (cst h (l[i]).f1 : Int) ((i + 1 : Nat) : Int) else _))) = _
    by_cases e : (i : Int) = (b : Int)
    · rw [if_pos e]
      exact rbest_l1 Hh hp h2 hb one others rest X d (i + 1) q v (by omega) (by omega) h3 (fun e1 y hy => by
        by_cases e2 : y = i
        · omega
        · exact h4 e1 y (by omega)) (fun y hy h6 h7 => h5 y hy (by omega) h7) hq
    · rw [if_neg e]
      have hr := rest i g (by omega)
      by_cases w : v < 0
      · rw [if_pos w]
        have hv : v = -1 := by rcases h3 with e | e <;> omega
        exact rbest_l1 Hh hp h2 hb one others rest X d (i + 1) q _ (by omega) (by omega) (Or.inr ⟨by omega, hr, by omega⟩) (fun e1 => by omega) (fun y hy h6 h7 => by
          by_cases e2 : y = i
          · subst e2; omega
          · exact absurd (h4 hv y (by omega)) h7) hq
      · rw [if_neg w]
        by_cases u : (cst h (l[i]).f1 : Int) < v
        · rw [if_pos u]
          exact rbest_l1 Hh hp h2 hb one others rest X d (i + 1) q _ (by omega) (by omega) (Or.inr ⟨by omega, hr, by omega⟩) (fun e1 => by omega) (fun y hy h6 h7 => by
            by_cases e2 : y = i
            · subst e2; omega
            · have := h5 y hy (by omega) h7; omega) hq
        · rw [if_neg u]
          exact rbest_l1 Hh hp h2 hb one others rest X d (i + 1) q v (by omega) (by omega) h3 (fun e1 => by omega) (fun y hy h6 h7 => by
            by_cases e2 : y = i
            · subst e2; omega
            · exact h5 y hy (by omega) h7) hq
end Go.Proofs.Ytgaepndbfpfniaa.PFR
