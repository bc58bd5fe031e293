/- The plain theory of fingerprints, on; no condition. -/
import Derived.Test.YtgaepndbfpfniaaFH
namespace Go.Proofs.Ytgaepndbfpfniaa.PFR
open Go.RowKit Go.Proofs.YtgaepndbfpfniaaW.PrintWords Go.Proofs.YtgaepndbfpfniaaW.PrintLast Go.Proofs.YtgaepndbfpfniaaW.PrintMore
/-! The prints that integers determine. -/
def madeL : Nat → List (List Int) → List S34
  | _, [] => []
  | i, x :: l => ⟨2 + (i : Int), codesP x⟩ :: madeL (i + 1) l
def madeP (z : List (List Int)) : List S34 := ⟨1, [1, 2, 3, 4]⟩ :: madeL 0 (z.take 3)
theorem rdL1_get {l : List (List Int)} {i : Nat} (h : i < l.length) : rd_L1 l (i : Int) = l[i] := by simp [rd_L1, h]
theorem made_l0 (z : List (List Int)) (hz : z.length ≤ 9223372036854775806) (hw : ∀ x ∈ z, x.length ≤ 9223372036854775806 ∧ ∀ y ∈ x, I64 y) (d : Nat) : ∀ (k i : Nat) (out : List S34), i ≤ 3 → i ≤ z.length → 3 - i = d → d + 50 ≤ k → out.length ≤ i + 1 →
    aircheckref36_Made.l0 k z out (i : Int) = some (out ++ madeL i ((z.take 3).drop i)) := by
  induction d with
  | zero =>
    intro k i out h1 h2 hd hk ho
    obtain ⟨k, rfl⟩ : ∃ m, k = m + 1 := ⟨k - 1, by omega⟩
    have : (z.take 3).drop i = [] := List.drop_eq_nil_of_le (by simp; omega)
    rw [this, madeL, List.append_nil]
    simp only [aircheckref36_Made.l0]
    split
    · rw [if_neg (by omega)]
    · rfl
  | succ d ih =>
    intro k i out h1 h2 hd hk ho
    obtain ⟨k, rfl⟩ : ∃ m, k = m + 1 := ⟨k - 1, by omega⟩
    simp only [aircheckref36_Made.l0]
    by_cases hc : i < z.length
    · have hx := hw _ (List.getElem_mem hc)
      rw [if_pos (by omega), if_pos (by omega), if_pos (by omega), rdL1_get hc, codes_f hx.1 hx.2 (by omega), Option.bind_some, if_pos (by omega), wrap_id (x := 2 + (i : Int)) (by omega) (by omega), show wrap64 ((i : Int) + 1) = ((i + 1 : Nat) : Int) by rw [wrap_id (by omega) (by omega)]; omega,
        ih k (i + 1) _ (by omega) (by omega) (by omega) (by omega) (by simp; omega)]
      have e1 : (z.take 3).drop i = z[i] :: (z.take 3).drop (i + 1) := by
        rw [List.drop_eq_getElem_cons (by simp; omega)]
        simp
      rw [e1, madeL]
      simp
    · rw [if_neg (by omega)]
      have : (z.take 3).drop i = [] := List.drop_eq_nil_of_le (by simp; omega)
      rw [this]
      simp [madeL]
theorem made_f {z : List (List Int)} (hz : z.length ≤ 9223372036854775806) (hw : ∀ x ∈ z, x.length ≤ 9223372036854775806 ∧ ∀ y ∈ x, I64 y) {k : Nat} (hk : 100 ≤ k) : aircheckref36_Made.f k z = some (madeP z) := by
  unfold aircheckref36_Made.f
  have := made_l0 z hz hw 3 k 0 [⟨1, [1, 2, 3, 4]⟩] (by omega) (by omega) (by omega) (by omega) (by simp)
  simpa [madeP] using this
theorem madeL_len : ∀ (i : Nat) (l : List (List Int)), (madeL i l).length = l.length
  | _, [] => rfl
  | i, x :: l => by simp [madeL, madeL_len (i + 1) l]
theorem madeL_vp : ∀ (l : List (List Int)) (i : Nat) (a : Int), a < 2 + (i : Int) → i + l.length ≤ 50 → VP a (madeL i l) ∧ ∀ q ∈ madeL i l, q.f0 < 60
  | [], _, _, _, _ => ⟨trivial, by simp [madeL]⟩
  | x :: l, i, a, h, hl => by
    simp only [List.length_cons] at hl
    obtain ⟨h1, h2⟩ := madeL_vp l (i + 1) (2 + (i : Int)) (by omega) (by omega)
    refine ⟨⟨h, ?_, (codes_pr x).1, h1⟩, fun q hq => ?_⟩
    · show (2 + (i : Int)) < 200; omega
    · rw [madeL, List.mem_cons] at hq
      rcases hq with rfl | hq
      · show (2 + (i : Int)) < 60; omega
      · exact h2 q hq
theorem made_vp (z : List (List Int)) : VP (-1) (madeP z) ∧ (∀ q ∈ madeP z, q.f0 < 60) ∧ 1 ≤ (madeP z).length ∧ (madeP z).length ≤ 4 := by
  have hl : (z.take 3).length ≤ 3 := by simp; omega
  obtain ⟨h1, h2⟩ := madeL_vp (z.take 3) 0 1 (by omega) (by omega)
  refine ⟨⟨by show (-1 : Int) < 1; omega, by show (1 : Int) < 200; omega, ⟨by simp, by simp, by simp⟩, h1⟩, fun q hq => ?_, by simp [madeP], by simp [madeP, madeL_len]; omega⟩
  rw [madeP, List.mem_cons] at hq
  rcases hq with rfl | hq
  · show (1 : Int) < 60; omega
  · exact h2 q hq
theorem vb_true {al : List S34} (hl : al.length ≤ 1000) {k : Nat} (hk : 1100 ≤ k) : ∃ v, fingerprint_Valid.f k al = some v ∧ aircheckref36_Valid.f k al = some v ∧ (v = true → VP (-1) al ∧ al.length ≤ 20) := by
  obtain ⟨v, e1, e2⟩ := valid_both al hl k al.length 0 (-1) (by omega) (by omega) (by omega) (fun _ => rfl) (fun q => by omega) (by omega)
  refine ⟨v, e1, e2, fun hv => ?_⟩
  rw [hv] at e1
  exact valid_vp al hl k 0 (-1) (by omega) e1
theorem rbest_f {h : List Int} {al : List S34} (hl : al.length ≤ 1000) {k : Nat} (hk : 40000 ≤ k) : ∃ (w1 w2 w3 w4 : Int) (wo : List Int) (a e : Int), fingerprint_Best.f k al h = some (w1, w2, w3, w4, wo, a, e) ∧ aircheckref36_Best.f k al h = some (w1, w2, w3, w4, wo, a, e) ∧ wo.length ≤ 200 := by
  obtain ⟨v, e1, e2, e3⟩ := vb_true (al := al) hl (k := k) (by omega)
  obtain ⟨q, rfl⟩ : ∃ q, k = (((q + al.length + 1) + al.length + 1) + 1) := ⟨k - 2 * al.length - 3, by omega⟩
  by_cases hz : al.length = 0
  · refine ⟨0, 0, 0, 0, [], 0, 360, by unfold fingerprint_Best.f; rw [if_pos hz], ?_, by simp⟩
    unfold aircheckref36_Best.f
    rw [e2, Option.bind_some, rheard_f h (by omega)]
    have h0 : ((al.length : Int) == 0) = true := beq_iff_eq.2 (by omega)
    cases v with
    | false =>
      rw [if_neg (by decide)]
      simp only [aircheckref36_Best.j0, if_true]
    | true =>
      rw [if_pos rfl, Option.bind_some, h0]
      split <;> simp only [aircheckref36_Best.j0, if_true]
  · have h0 : ((al.length : Int) == 0) = false := beq_eq_false_iff_ne.2 (by omega)
    cases v with
    | false =>
      refine ⟨0, 0, 0, 0, [], 0, 360, ?_, ?_, by simp⟩
      · unfold fingerprint_Best.f; rw [if_neg hz, e1]; rfl
      · unfold aircheckref36_Best.f
        rw [e2, Option.bind_some, if_neg (by decide)]
        simp only [aircheckref36_Best.j0, if_true]
    | true =>
      obtain ⟨hv, h20⟩ := e3 rfl
      by_cases hh : fp_heardB h = true
      · have Hh := heardB_hd hh
        obtain ⟨b, i, j, m, ops, s, hb, ef, B⟩ := best_f Hh hv (by omega) h20 (k := ((q + al.length + 1) + al.length + 1) + 1) (by omega)
        refine ⟨_, _, _, _, _, _, _, ef, ?_, ?_⟩
        · unfold aircheckref36_Best.f
          rw [e2, Option.bind_some, if_pos rfl, rheard_f h (by omega), Option.bind_some, if_pos hh, h0]
          simp only [aircheckref36_Best.j0, Bool.false_eq_true, if_false]
          have r0 := rbest_l0 Hh hv.pr h20 hb (fun x hx => by rw [B.cost]; exact B.least x hx) (fun x hx hxb => by rw [B.cost]; exact B.first x hx hxb) al.length 0 0 (q + al.length + 1) (by omega) (by omega) (by omega) (fun _ y hy _ => by rw [B.cost]; exact B.least y hy) (fun _ => rfl) (fun w => by omega) (fun w => by omega) (fun _ => Or.inr rfl) (by omega)
          rw [show ((0 : Nat) : Int) = 0 from rfl] at r0
          rw [r0]
          have r1 := rbest_l1 Hh hv.pr h20 hb B.one B.others B.rest none al.length 0 q (-1) (by omega) (by omega) (Or.inl rfl) (fun _ y hy => by omega) (fun y hy h6 => by omega) (by omega)
          rw [show ((0 : Nat) : Int) = 0 from rfl] at r1
          rw [r1]
          have hp := hv.pr al[b] (List.getElem_mem hb)
          obtain ⟨i', j', n', o', ea, _, _⟩ := align_f Hh hp (k := q) (by omega)
          rw [ralign_f h (al[b]).f1 (by omega), ea]
          have ea2 := at_rounds (fingerprint_Align.mono h (al[b]).f1) (show q ≤ ((q + al.length + 1) + al.length + 1) + 1 by omega) ea
          rw [B.al] at ea2
          have := Option.some.inj ea2
          simp only [Prod.mk.injEq] at this
          obtain ⟨_, t1, t2, t3, t4, _⟩ := this
          rw [← t1, ← t2, ← t3, ← t4]
          rfl
        · have o1 := B.at_.ops.len
          have o2 := (hv.pr al[b] (List.getElem_mem hb)).2.1
          have o3 := Hh.1
          simp only [List.length_drop, List.length_take] at o1
          omega
      · refine ⟨0, 0, 0, 0, [], 0, 360, ?_, ?_, by simp⟩
        · unfold fingerprint_Best.f; rw [if_neg hz, e1, Option.bind_some, if_pos rfl, heard_b, Option.bind_some, if_neg hh]
        · unfold aircheckref36_Best.f
          rw [e2, Option.bind_some, if_pos rfl, rheard_f h (by omega), Option.bind_some, if_neg hh]
          simp only [aircheckref36_Best.j0, if_true]
theorem bestok_f {h : List Int} {al : List S34} (hl : al.length ≤ 1000) {k : Nat} (hk : 40000 ≤ k) : mr_bestok k h al := by
  obtain ⟨w1, w2, w3, w4, wo, a, e, h1, h2, h3⟩ := rbest_f (h := h) hl hk
  exact ⟨w1, w2, w3, w4, wo, a, e, h1, h2, same_refl (by omega) (by omega) _ _ _ _⟩
theorem dist_some (a b : List Int) : ∃ d e, fingerprint_Distance.f a b = some (d, e) := by
  by_cases ha : fp_heardB a = true
  · by_cases hb : fp_heardB b = true
    · exact ⟨_, _, dist_f (heardB_hd ha) (heardB_hd hb)⟩
    · refine ⟨0, 360, ?_⟩
      unfold fingerprint_Distance.f
      rw [heard_b, heard_b, Option.bind_some, if_pos ha, Option.bind_some, if_neg hb]
  · refine ⟨0, 360, ?_⟩
    unfold fingerprint_Distance.f
    rw [heard_b, Option.bind_some, if_neg ha]
theorem cost_no {h c : List Int} (hab : ¬ (fp_heardB h = true ∧ fp_printB c = true)) {k : Nat} (hk : 10000 ≤ k) : fingerprint_Cost.f k h c = some (0, 360) := by
  rw [← rcost_f h c hk]
  unfold aircheckref36_Cost.f
  rw [rtab_f h c (by omega)]
  unfold fingerprint_Table.f
  rw [Option.bind_some, if_neg hab]
  rfl
theorem aok_f (h c : List Int) {k : Nat} (hk : 20000 ≤ k) : ∃ (o1 o2 o3 o4 : Int) (oo : List Int), mr_aok k h c o1 o2 o3 o4 oo := by
  obtain ⟨d, e, hd⟩ := dist_some h c
  by_cases hab : fp_heardB h = true ∧ fp_printB c = true
  · have Hh := heardB_hd hab.1
    have Hc := printB_pr hab.2
    obtain ⟨n, en, _⟩ := cost_f Hh Hc (k := k) (by omega)
    obtain ⟨i, j, m, ops, ea, b, _⟩ := align_f Hh Hc (k := k) (by omega)
    have o1 := b.ops.len
    have o2 := Hc.2.1
    have o3 := Hh.1
    simp only [List.length_drop, List.length_take] at o1
    exact ⟨_, _, _, _, _, d, e, _, _, _, hd, (rdist_f (by omega)).trans hd, en, (rcost_f h c (by omega)).trans en, ea, (ralign_f h c hk).trans ea, same_refl (by omega) (by omega) _ _ _ _⟩
  · have en := cost_no hab (k := k) (by omega)
    have ea : fingerprint_Align.f k h c = some (0, 0, 0, 0, [], 360) := by
      unfold fingerprint_Align.f
      rw [en]
      rfl
    exact ⟨_, _, _, _, _, d, e, _, _, _, hd, (rdist_f (by omega)).trans hd, en, (rcost_f h c (by omega)).trans en, ea, (ralign_f h c hk).trans ea, same_refl (by simp) (by simp; omega) _ _ _ _⟩
theorem bdok_f {h c : List Int} (hh : h.length ≤ 1000) (hc : c.length ≤ 1000) (tb : List (List Int)) {k : Nat} (hk : 2000 ≤ k) : mr_bdok k h c tb := by
  unfold mr_bdok fingerprint_Bound.f aircheckref36_Bound.f
  have k1 := rheard_f h (k := k) (by omega)
  have k2 := rprint_f c (k := k) (by omega)
  simp only [if_pos (And.intro hh hc), heard_b, print_b, k1, k2, Option.bind_some]
  by_cases a : fp_heardB h = true
  · simp only [if_pos a]
    by_cases b : fp_printB c = true
    · simp only [if_pos b]
      by_cases g : tb.length = h.length + 1
      · simp only [if_pos g]
        by_cases o : bd_ok h c tb
        · simp only [if_pos o]
          have hr : (rd_L1 tb (h.length : Int)).length = c.length + 1 := (o h.length (by omega)).1
          have hc60 := (printB_pr b).2.1
          rw [least_f (l := rd_L1 tb (h.length : Int)) (by omega) (by omega) (by omega)]
          cases hm : slices_Min_int_int.f (rd_L1 tb (h.length : Int)) with
          | none =>
            exfalso
            unfold slices_Min_int_int.f at hm
            split at hm
            · next e => rw [e] at hr; simp at hr
            · cases hm
          | some z => exact ⟨z, true, rfl, rfl⟩
        · simp only [if_neg o]; exact ⟨0, false, rfl, rfl⟩
      · simp only [if_neg g]; exact ⟨0, false, rfl, rfl⟩
    · simp only [if_neg b]; exact ⟨0, false, rfl, rfl⟩
  · simp only [if_neg a]; exact ⟨0, false, rfl, rfl⟩
theorem ckok_f {h c : List Int} (hh : h.length ≤ 1000) (hc : c.length ≤ 1000) (m1 m2 m3 m4 : Int) {mo : List Int} (hm : mo.length ≤ 1000) {k : Nat} (hk : 2000 ≤ k) : mr_ckok k h c m1 m2 m3 m4 mo := by
  unfold mr_ckok fingerprint_Check.f aircheckref36_Check.f
  have k1 := rheard_f h (k := k) (by omega)
  have k2 := rprint_f c (k := k) (by omega)
  simp only [if_pos (And.intro hh (And.intro hc hm)), heard_b, print_b, k1, k2, Option.bind_some]
  by_cases a : fp_heardB h = true
  · simp only [if_pos a]
    by_cases b : fp_printB c = true
    · simp only [if_pos b]
      by_cases g : m2 < 0 ∨ m3 < m2 ∨ (c.length : Int) < m3
      · simp only [if_pos g]; exact ⟨false, rfl, rfl⟩
      · simp only [if_neg g]; exact ⟨_, rfl, rfl⟩
    · simp only [if_neg b]; exact ⟨false, rfl, rfl⟩
  · simp only [if_neg a]; exact ⟨false, rfl, rfl⟩
theorem tok_f {h c : List Int} (hh : h.length ≤ 1000) (hc : c.length ≤ 1000) {p0 p1 : Int} (w0 : I64 p0) (w1 : I64 p1) (p2 : Int) {k : Nat} (hk : 20000 ≤ k) : ∃ t, mr_tok k h c p0 p1 p2 t := by
  by_cases hab : fp_heardB h = true ∧ fp_printB c = true
  · have Hh := heardB_hd hab.1
    have Hc := printB_pr hab.2
    have e1 : fingerprint_Table.f h c = some (tabF h c (h.length + 1), 0) := by
      unfold fingerprint_Table.f
      rw [if_pos hab, rowsP_tab h c Hh.1 Hc.2.1]
    have hlen : (tabF h c (h.length + 1)).length = h.length + 1 := mapR_length _ _
    have hrow : ∀ r ∈ tabF h c (h.length + 1), r.length = c.length + 1 := fun r hr => by
      unfold tabF mapR at hr
      obtain ⟨i, _, rfl⟩ := List.mem_map.1 hr
      exact mapR_length _ _
    refine ⟨_, 0, e1, (rtab_f h c (by omega)).trans e1, sametab_f (by rw [hlen]; have := Hh.1; omega) (fun r hr => by rw [hrow r hr]; have := Hc.2.1; omega) (by omega), fun ht => ?_⟩
    have q0 := pickP_in (a := p0) (n := ((tabF h c (h.length + 1)).length : Int)) (by omega)
    have hm : (tabF h c (h.length + 1)).getD (pickP p0 ((tabF h c (h.length + 1)).length : Int)).toNat [] ∈ tabF h c (h.length + 1) := by
      rw [List.getD_eq_getElem?_getD, List.getElem?_eq_getElem (by omega), Option.getD_some]
      exact List.getElem_mem _
    have hr := hrow _ hm
    have q1 := pickP_in (a := p1) (n := (((tabF h c (h.length + 1)).getD (pickP p0 ((tabF h c (h.length + 1)).length : Int)).toNat []).length : Int)) (by omega)
    exact ⟨_, _, pick_f w0 (by omega), q0, pick_f w1 (by omega), q1, bdok_f hh hc _ (by omega)⟩
  · have e1 : fingerprint_Table.f h c = some ([], 360) := by
      unfold fingerprint_Table.f
      rw [if_neg hab]
    exact ⟨[], 360, e1, (rtab_f h c (by omega)).trans e1, sametab_f (by simp) (by simp) (by omega), fun ht => by simp at ht⟩
theorem hcok_f {h c : List Int} {al : List S34} (hh : h.length ≤ 1000) (hc : c.length ≤ 1000) (hl : al.length ≤ 1000) (tb : List (List Int)) (m1 m2 m3 m4 : Int) {mo : List Int} (hm : mo.length ≤ 1000) {p0 p1 : Int} (w0 : I64 p0) (w1 : I64 p1) (p2 : Int) {k : Nat} (hk : 40000 ≤ k) : mr_hcok k h c al tb m1 m2 m3 m4 mo p0 p1 p2 := by
  obtain ⟨o1, o2, o3, o4, oo, ha⟩ := aok_f h c (k := k) (by omega)
  obtain ⟨t, ht⟩ := tok_f hh hc w0 w1 p2 (k := k) (by omega)
  have ho : oo.length ≤ 1000 := by
    obtain ⟨d, e, g, j, p, _, _, _, _, ea, _, _⟩ := ha
    by_cases hab : fp_heardB h = true ∧ fp_printB c = true
    · have Hh := heardB_hd hab.1
      have Hc := printB_pr hab.2
      obtain ⟨i', j', m', o', ea', b, _⟩ := align_f Hh Hc (k := k) (by omega)
      rw [ea] at ea'
      have := Option.some.inj ea'
      simp only [Prod.mk.injEq] at this
      have o1 := b.ops.len
      have o2 := Hc.2.1
      have o3 := Hh.1
      simp only [List.length_drop, List.length_take] at o1
      rw [this.2.2.2.2.1]
      omega
    · have en := cost_no hab (k := k) (by omega)
      unfold fingerprint_Align.f at ea
      rw [en] at ea
      have := Option.some.inj ea
      simp only [Prod.mk.injEq] at this
      rw [← this.2.2.2.2.1]
      simp
  exact ⟨o1, o2, o3, o4, oo, t, ha, ht, ckok_f hh hc m1 m2 m3 m4 hm (by omega), ckok_f hh hc o1 o2 o3 o4 ho (by omega), bdok_f hh hc tb (by omega), bestok_f hl (by omega)⟩
end Go.Proofs.Ytgaepndbfpfniaa.PFR
