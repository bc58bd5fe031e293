/- The plain theory of fingerprints, on; no condition. -/
import Derived.Test.YtgaepndbfpfniaaFD
import Derived.Test.YtgaepndbfpfniaaPFBx25
import Derived.Test.YtgaepndbfpfniaaPFBx26
import Derived.Test.YtgaepndbfpfniaaPFBx27
namespace Go.Proofs.Ytgaepndbfpfniaa.PFB
open Go.RowKit Go.Proofs.YtgaepndbfpfniaaW.PrintWords Go.Proofs.YtgaepndbfpfniaaW.PrintLast Go.Proofs.YtgaepndbfpfniaaW.PrintMore
/-! The best match of all prints. -/
noncomputable def cst (h c : List Int) : Nat := (cost_row h c).choose
theorem cst_min (h c : List Int) : slices_Min_int_int.f (rowG fr h.reverse [] c) = some (cst h c : Int) := (cost_row h c).choose_spec.1
theorem cst_is (h c : List Int) : IsCost h c (cst h c) := (cost_row h c).choose_spec.2
def VP : Int → List S34 → Prop
  | _, [] => True
  | a, p :: l => a < p.f0 ∧ p.f0 < 200 ∧ Pr p.f1 ∧ VP p.f0 l
theorem VP.pr : ∀ {a : Int} {l : List S34}, VP a l → ∀ p ∈ l, Pr p.f1
  | _, [], _, p, hp => by simp at hp
  | _, q :: l, h, p, hp => by
    rw [List.mem_cons] at hp
    rcases hp with rfl | hp
    · exact h.2.2.1
    · exact VP.pr h.2.2.2 p hp
theorem VP.snoc {p : S34} (h1 : p.f0 < 200) (h2 : Pr p.f1) : ∀ {a : Int} {l : List S34}, VP a l → a < p.f0 → (∀ q ∈ l, q.f0 < p.f0) → VP a (l ++ [p])
  | a, [], _, ha, _ => ⟨ha, h1, h2, trivial⟩
  | a, q :: l, h, _, hq => ⟨h.1, h.2.1, h.2.2.1, VP.snoc h1 h2 h.2.2.2 (hq q (by simp)) (fun x hx => hq x (by simp [hx]))⟩
theorem rd34 {l : List S34} {i : Nat} (h : i < l.length) : rd_T34 l (i : Int) = l[i] := by simp [rd_T34, h]
theorem valid_l0 (l : List S34) (hl : l.length ≤ 20) (d : Nat) : ∀ (k i : Nat) (a : Int), i ≤ l.length → l.length - i = d → d + 1 ≤ k → VP a (l.drop i) → fingerprint_Valid.l0 k l a l (l.length : Int) (i : Int) = some true := by
  induction d with
  | zero =>
    intro k i a h1 h2 h3 h4
    obtain ⟨k, rfl⟩ : ∃ m, k = m + 1 := ⟨k - 1, by omega⟩
    simp only [fingerprint_Valid.l0]
    rw [if_neg (by omega), decide_eq_true (by omega)]
  | succ d ih =>
    intro k i a h1 h2 h3 h4
    obtain ⟨k, rfl⟩ : ∃ m, k = m + 1 := ⟨k - 1, by omega⟩
    have hc : i < l.length := by omega
    rw [List.drop_eq_getElem_cons hc] at h4
    obtain ⟨q1, q2, q3, q4⟩ := h4
    simp only [fingerprint_Valid.l0]
    rw [if_pos (by omega), if_pos (by omega), if_pos (by omega), rd34 hc, if_neg (by omega), if_neg (by omega), isPrint_f q3, Option.bind_some, if_pos rfl, show wrap64 ((i : Int) + 1) = ((i + 1 : Nat) : Int) by rw [wrap_id (by omega) (by omega)]; omega]
    exact ih k (i + 1) _ (by omega) (by omega) (by omega) q4
theorem valid_f {l : List S34} (hl : l.length ≤ 20) (h : VP (-1) l) {k : Nat} (hk : 21 ≤ k) : fingerprint_Valid.f k l = some true := valid_l0 l hl l.length k 0 (-1) (by omega) (by omega) (by omega) h
noncomputable def costs (h : List Int) (l : List S34) : List Nat := l.map (fun p => cst h p.f1)
theorem costsO_f {h : List Int} (Hh : Hd h) : ∀ {l : List S34}, (∀ p ∈ l, Pr p.f1) → fp_costsO h l = some ((costs h l).map (fun n : Nat => (n : Int)))
  | [], _ => rfl
  | p :: l, hp => by
    have h1 := hp p (by simp)
    have e : fp_cost1 h p.f1 = some (cst h p.f1 : Int) := by
      unfold fp_cost1
      rw [last_f Hh.1 h1.2.1, Option.bind_some]
      exact cst_min h p.f1
    rw [fp_costsO, e, Option.bind_some, costsO_f Hh (fun q hq => hp q (by simp [hq])), Option.bind_some]
    rfl
theorem eraseIdx_map_ : ∀ (l : List Nat) (b : Nat), (l.map (fun n : Nat => (n : Int))).eraseIdx b = (l.eraseIdx b).map (fun n : Nat => (n : Int))
  | [], b => by simp
  | x :: l, 0 => rfl
  | x :: l, b + 1 => by simp [eraseIdx_map_ l b]
theorem min_f : ∀ (ns : List Nat), ns ≠ [] → ∃ m : Nat, slices_Min_int_int.f (ns.map (fun n : Nat => (n : Int))) = some (m : Int) ∧ m ∈ ns ∧ ∀ x ∈ ns, m ≤ x
  | [], h => absurd rfl h
  | x :: l, _ => by
    obtain ⟨h1, h2⟩ := fp_minF_le (l.map (fun n : Nat => (n : Int))) (x : Int)
    have hm : ∃ m : Nat, fp_minF (x : Int) (l.map (fun n : Nat => (n : Int))) = (m : Int) ∧ m ∈ x :: l := by
      rcases fp_minF_mem (l.map (fun n : Nat => (n : Int))) (x : Int) with h | h
      · exact ⟨x, h, by simp⟩
      · obtain ⟨m, hm, e⟩ := List.mem_map.1 h
        exact ⟨m, e.symm, by simp [hm]⟩
    obtain ⟨m, e, hm⟩ := hm
    refine ⟨m, by rw [List.map_cons, ← e]; rfl, hm, fun y hy => ?_⟩
    rw [List.mem_cons] at hy
    rcases hy with rfl | hy
    · omega
    · have := h2 (y : Int) (List.mem_map.2 ⟨y, hy, rfl⟩)
      omega
/-- what Best answers -/
structure BestP (k : Nat) (h : List Int) (l : List S34) (b i j m : Nat) (ops : List Int) (s : Int) : Prop where
  lt : b < l.length
  cost : cst h (l[b]).f1 = m
  least : ∀ q (hq : q < l.length), m ≤ cst h (l[q]).f1
  first : ∀ q (hq : q < l.length), q < b → cst h (l[q]).f1 ≠ m
  at_ : Best1 h (l[b]).f1 i j m ops
  al : fingerprint_Align.f k h (l[b]).f1 = some (0, (i : Int), (j : Int), (m : Int), ops, 0)
  one : l.length = 1 → s = -1
  second : 1 < l.length → ∃ n : Nat, s = (n : Int) ∧ m ≤ n
  others : 1 < l.length → ∃ q, ∃ hq : q < l.length, q ≠ b ∧ s = (cst h (l[q]).f1 : Int)
theorem best_f {h : List Int} {l : List S34} (Hh : Hd h) (hv : VP (-1) l) (h1 : 1 ≤ l.length) (h2 : l.length ≤ 20) {k : Nat} (hk : 300 ≤ k) :
    ∃ (b i j m : Nat) (ops : List Int) (s : Int) (hb : b < l.length), fingerprint_Best.f k l h = some ((l[b]).f0, (i : Int), (j : Int), (m : Int), ops, s, 0) ∧ BestP k h l b i j m ops s := by
  have hcl : (costs h l).length = l.length := by simp [costs]
  have hget : ∀ q (hq : q < l.length), (costs h l)[q]'(by rw [hcl]; exact hq) = cst h (l[q]).f1 := fun q hq => by simp [costs]
  obtain ⟨m, em, mm, ml⟩ := min_f (costs h l) (by intro e; rw [e] at hcl; simp at hcl; omega)
  have hix := index_f ((costs h l).map (fun n : Nat => (n : Int))) (by simp; omega) (m : Int) (k := k) (by simp; omega)
  rcases hix with ⟨b, hb, eb, bm, bf⟩ | ⟨_, hn⟩
  · have hb' : b < l.length := by simpa [hcl] using hb
    simp only [List.getElem_map] at bm bf
    rw [hget b hb'] at bm
    have hp := hv.pr l[b] (List.getElem_mem hb')
    obtain ⟨i, j, n, ops, ea, ba⟩ := align_f Hh hp (k := k) (by omega)
    have hn : n = m := by have := ba.cost.eq (cst_is h (l[b]).f1); omega
    subst hn
    have hs : ∃ s : Int, fp_second (((costs h l).map (fun n : Nat => (n : Int))).eraseIdx b) = some s ∧ (l.length = 1 → s = -1) ∧ (1 < l.length → ∃ n' : Nat, s = (n' : Int) ∧ n ≤ n') ∧ (1 < l.length → ∃ q, ∃ hq : q < l.length, q ≠ b ∧ s = (cst h (l[q]).f1 : Int)) := by
      rw [show ((costs h l).map (fun n : Nat => (n : Int))).eraseIdx b = ((costs h l).eraseIdx b).map (fun n : Nat => (n : Int)) from eraseIdx_map_ _ b]
      have hel : ((costs h l).eraseIdx b).length = l.length - 1 := by rw [List.length_eraseIdx_of_lt (by omega), hcl]
      by_cases c : l.length = 1
      · have e0 : (costs h l).eraseIdx b = [] := List.eq_nil_of_length_eq_zero (by omega)
        rw [e0]
        exact ⟨-1, rfl, fun _ => rfl, fun h => absurd h (by omega), fun h => absurd h (by omega)⟩
      · have hne : (costs h l).eraseIdx b ≠ [] := by intro e; rw [e] at hel; simp at hel; omega
        obtain ⟨m2, e2, mm2, _⟩ := min_f _ hne
        refine ⟨(m2 : Int), ?_, fun h => absurd h c, fun _ => ⟨m2, rfl, ml _ (List.mem_of_mem_eraseIdx mm2)⟩, fun _ => ?_⟩
        · rw [← e2]
          generalize (costs h l).eraseIdx b = u at hne
          cases u with
          | nil => exact absurd rfl hne
          | cons => rfl
        · obtain ⟨q, hq, hqb, e⟩ := List.mem_eraseIdx_iff_getElem.1 mm2
          have hq' : q < l.length := by rw [← hcl]; exact hq
          rw [hget q hq'] at e
          exact ⟨q, hq', hqb, by rw [e]⟩
    obtain ⟨s, es, s1, s2, s3⟩ := hs
    refine ⟨b, i, j, n, ops, s, hb', ?_, hb', by omega, fun q hq => ?_, fun q hq hqb => ?_, ba, ea, s1, s2, s3⟩
    · unfold fingerprint_Best.f
      rw [if_neg (by omega), valid_f h2 hv (by omega), Option.bind_some, if_pos rfl, heard_f Hh, Option.bind_some, if_pos rfl, costsO_f Hh hv.pr, Option.bind_some, em, Option.bind_some, eb, Option.bind_some]
      unfold fp_best2
      rw [if_pos ⟨by omega, by omega, by omega⟩, rd34 hb', ea, Option.bind_some, Int.toNat_natCast, es]
      rfl
    · have := ml _ (List.getElem_mem (by rw [hcl]; exact hq : q < (costs h l).length))
      rw [hget q hq] at this
      exact this
    · have := bf q (by simpa [hcl] using hq) hqb
      rw [hget q hq] at this
      omega
  · obtain ⟨q, hq, e⟩ := List.getElem_of_mem mm
    refine absurd ?_ (hn q (by simpa using hq))
    simp [e]
/-! The prints that integers determine. -/
def madeL : Nat → List (List Int) → List S34
  | _, [] => []
  | i, x :: l => ⟨2 + (i : Int), codesP x⟩ :: madeL (i + 1) l
def madeP (z : List (List Int)) : List S34 := ⟨1, [1, 2, 3, 4]⟩ :: madeL 0 (z.take 3)
theorem rdL1_get {l : List (List Int)} {i : Nat} (h : i < l.length) : rd_L1 l (i : Int) = l[i] := by simp [rd_L1, h]
theorem made_l0 (z : List (List Int)) (hz : z.length ≤ 9223372036854775806) (hw : ∀ x ∈ z, x.length ≤ 9223372036854775806 ∧ ∀ y ∈ x, I64 y) (d : Nat) : ∀ (k i : Nat) (out : List S34), i ≤ 3 → i ≤ z.length → 3 - i = d → d + 50 ≤ k → out.length ≤ i + 1 →
    aircheckref36_Made.l0 k z out (i : Int) = some (out ++ madeL i ((z.take 3).drop i)) := by
  induction d with
  | zero =>
    intro k i out h1 h2 hd hk ho
    obtain ⟨k, rfl⟩ : ∃ m, k = m + 1 := ⟨k - 1, by omega⟩
    have : (z.take 3).drop i = [] := List.drop_eq_nil_of_le (by simp; omega)
    rw [this, madeL, List.append_nil]
    simp only [aircheckref36_Made.l0]
    split
    · rw [if_neg (by omega)]
    · rfl
  | succ d ih =>
    intro k i out h1 h2 hd hk ho
    obtain ⟨k, rfl⟩ : ∃ m, k = m + 1 := ⟨k - 1, by omega⟩
    simp only [aircheckref36_Made.l0]
    by_cases hc : i < z.length
    · have hx := hw _ (List.getElem_mem hc)
      rw [if_pos (by omega), if_pos (by omega), if_pos (by omega), rdL1_get hc, codes_f hx.1 hx.2 (by omega), Option.bind_some, if_pos (by omega), wrap_id (x := 2 + (i : Int)) (by omega) (by omega), show wrap64 ((i : Int) + 1) = ((i + 1 : Nat) : Int) by rw [wrap_id (by omega) (by omega)]; omega,
        ih k (i + 1) _ (by omega) (by omega) (by omega) (by omega) (by simp; omega)]
      have e1 : (z.take 3).drop i = z[i] :: (z.take 3).drop (i + 1) := by
        rw [List.drop_eq_getElem_cons (by simp; omega)]
        simp
      rw [e1, madeL]
      simp
    · rw [if_neg (by omega)]
      have : (z.take 3).drop i = [] := List.drop_eq_nil_of_le (by simp; omega)
      rw [this]
      simp [madeL]
theorem made_f {z : List (List Int)} (hz : z.length ≤ 9223372036854775806) (hw : ∀ x ∈ z, x.length ≤ 9223372036854775806 ∧ ∀ y ∈ x, I64 y) {k : Nat} (hk : 100 ≤ k) : aircheckref36_Made.f k z = some (madeP z) := by
  unfold aircheckref36_Made.f
  have := made_l0 z hz hw 3 k 0 [⟨1, [1, 2, 3, 4]⟩] (by omega) (by omega) (by omega) (by omega) (by simp)
  simpa [madeP] using this
theorem madeL_len : ∀ (i : Nat) (l : List (List Int)), (madeL i l).length = l.length
  | _, [] => rfl
  | i, x :: l => by simp [madeL, madeL_len (i + 1) l]
theorem madeL_vp : ∀ (l : List (List Int)) (i : Nat) (a : Int), a < 2 + (i : Int) → i + l.length ≤ 50 → VP a (madeL i l) ∧ ∀ q ∈ madeL i l, q.f0 < 60
  | [], _, _, _, _ => ⟨trivial, by simp [madeL]⟩
  | x :: l, i, a, h, hl => by
    simp only [List.length_cons] at hl
    obtain ⟨h1, h2⟩ := madeL_vp l (i + 1) (2 + (i : Int)) (by omega) (by omega)
    refine ⟨⟨h, ?_, (codes_pr x).1, h1⟩, fun q hq => ?_⟩
    · show (2 + (i : Int)) < 200; omega
    · rw [madeL, List.mem_cons] at hq
      rcases hq with rfl | hq
      · show (2 + (i : Int)) < 60; omega
      · exact h2 q hq
theorem made_vp (z : List (List Int)) : VP (-1) (madeP z) ∧ (∀ q ∈ madeP z, q.f0 < 60) ∧ 1 ≤ (madeP z).length ∧ (madeP z).length ≤ 4 := by
  have hl : (z.take 3).length ≤ 3 := by simp; omega
  obtain ⟨h1, h2⟩ := madeL_vp (z.take 3) 0 1 (by omega) (by omega)
  refine ⟨⟨by show (-1 : Int) < 1; omega, by show (1 : Int) < 200; omega, ⟨by simp, by simp, by simp⟩, h1⟩, fun q hq => ?_, by simp [madeP], by simp [madeP, madeL_len]; omega⟩
  rw [madeP, List.mem_cons] at hq
  rcases hq with rfl | hq
  · show (1 : Int) < 60; omega
  · exact h2 q hq
/-! Codes with errors. -/
def Rg (l : List Int) : Prop := ∀ y ∈ l, -1 ≤ y ∧ y ≤ 255
theorem Ed.put (p q : List Int) (c : Int) : Ed (p ++ q) (p ++ c :: q) 1 := by
  have := (Ed.refl p).append (Ed.lost c (Ed.refl q))
  simpa using this
theorem Ed.drop1 (p q : List Int) (c : Int) : Ed (p ++ c :: q) (p ++ q) 1 := by
  have := (Ed.refl p).append (Ed.extra c (Ed.refl q))
  simpa using this
theorem Ed.swap (p q : List Int) (c d : Int) : Ed (p ++ c :: q) (p ++ d :: q) 1 := by
  have := (Ed.refl p).append (Ed.other c d (Ed.refl q))
  simpa using this
theorem cut_at {l : List Int} {a : Nat} (h : a < l.length) : l = l.take a ++ l[a] :: l.drop (a + 1) := by
  rw [← List.drop_eq_getElem_cons h, List.take_append_drop]
theorem set_cut {l : List Int} {a : Nat} (h : a < l.length) (c : Int) : l.set a c = l.take a ++ c :: l.drop (a + 1) := List.set_eq_take_append_cons_drop.trans (if_pos h)
theorem spoil_ok {out : List Int} {n : Int} {x : S29} (h0 : I64 x.f0) (h1 : I64 x.f1) (h2 : I64 x.f2) (hl : out.length ≤ 900) (hn : 0 ≤ n) (hn2 : n ≤ 900) (hr : Rg out) :
    ∃ (o : List Int) (m : Nat), fp_spoil out n x = some (o, n + m) ∧ Ed out o m ∧ m ≤ 1 ∧ o.length ≤ out.length + 1 ∧ Rg o := by
  have p1 := pickP_in (a := x.f1) (n := (out.length : Int) + 1) (by omega)
  have p2 := pickP_in (a := x.f2) (n := 7) (by omega)
  have p0 := pickP_in (a := x.f0) (n := 3) (by omega)
  unfold fp_spoil
  rw [rpick_f h1 (by omega), Option.bind_some, rpick_f h2 (by omega), Option.bind_some, rpick_f h0 (by omega), Option.bind_some, if_pos ⟨by omega, by omega, by omega, hn, by omega, by omega, by omega⟩]
  obtain ⟨a, ha⟩ : ∃ a : Nat, pickP x.f1 ((out.length : Int) + 1) = a := ⟨(pickP x.f1 ((out.length : Int) + 1)).toNat, by omega⟩
  rw [ha, Int.toNat_natCast]
  rw [ha] at p1
  generalize pickP x.f2 7 = c at p2
  generalize pickP x.f0 3 = op at p0
  by_cases c0 : op = 0
  · rw [if_pos c0]
    refine ⟨out.take a ++ (c - 1) :: out.drop a, 1, rfl, ?_, by omega, by simp; omega, fun y hy => ?_⟩
    · have := Ed.put (out.take a) (out.drop a) (c - 1)
      rwa [List.take_append_drop] at this
    · simp only [List.mem_append, List.mem_cons] at hy
      rcases hy with hy | rfl | hy
      · exact hr y (List.mem_of_mem_take hy)
      · omega
      · exact hr y (List.mem_of_mem_drop hy)
  rw [if_neg c0]
  by_cases c1 : op = 1
  · rw [if_pos c1]
    by_cases q : (a : Int) < (out.length : Int)
    · rw [if_pos q]
      have q' : a < out.length := by omega
      refine ⟨out.take a ++ out.drop (a + 1), 1, rfl, ?_, by omega, by simp; omega, fun y hy => ?_⟩
      · have := Ed.drop1 (out.take a) (out.drop (a + 1)) out[a]
        rwa [← cut_at q'] at this
      · simp only [List.mem_append] at hy
        rcases hy with hy | hy
        · exact hr y (List.mem_of_mem_take hy)
        · exact hr y (List.mem_of_mem_drop hy)
    · rw [if_neg q]
      exact ⟨out, 0, by simp, Ed.refl _, by omega, by omega, hr⟩
  rw [if_neg c1]
  by_cases q : (a : Int) < (out.length : Int)
  · rw [if_pos q]
    have q' : a < out.length := by omega
    refine ⟨out.set a (c - 1), 1, rfl, ?_, by omega, by simp, fun y hy => ?_⟩
    · have := Ed.swap (out.take a) (out.drop (a + 1)) out[a] (c - 1)
      rw [← cut_at q', ← set_cut q'] at this
      exact this
    · rcases List.mem_or_eq_of_mem_set hy with hy | rfl
      · exact hr y hy
      · omega
  · rw [if_neg q]
    exact ⟨out, 0, by simp, Ed.refl _, by omega, by omega, hr⟩
theorem spoils_ok : ∀ (l : List S29) (out : List Int) (n : Int), (∀ x ∈ l, I64 x.f0 ∧ I64 x.f1 ∧ I64 x.f2) → out.length + l.length ≤ 900 → 0 ≤ n → n + l.length ≤ 900 → Rg out →
    ∃ (o : List Int) (m k : Nat), fp_spoils l out n = some (o, n + m) ∧ k ≤ m ∧ Ed out o k ∧ m ≤ l.length ∧ o.length ≤ out.length + l.length ∧ Rg o
  | [], out, n, _, _, _, _, hr => ⟨out, 0, 0, by simp [fp_spoils], by omega, Ed.refl _, by simp, by simp, hr⟩
  | x :: l, out, n, hx, hl, hn, hn2, hr => by
    simp only [List.length_cons] at hl hn2
    obtain ⟨y0, y1, y2⟩ := hx x (by simp)
    obtain ⟨o, m, e, ed, hm, ho, hro⟩ := spoil_ok y0 y1 y2 (by omega) hn (by omega) hr
    obtain ⟨o', m', k', e', hk', ed', hm', ho', hr'⟩ := spoils_ok l o (n + m) (fun z hz => hx z (by simp [hz])) (by omega) (by omega) (by omega) hro
    obtain ⟨k, hk, edk⟩ := ed.trans ed'
    refine ⟨o', m + m', k, ?_, by omega, edk, by simp only [List.length_cons]; omega, by simp only [List.length_cons]; omega, hr'⟩
    simp only [fp_spoils]
    rw [e, Option.bind_some, e']
    congr 2
    omega
theorem VP.asc : ∀ {l : List S34} {a : Int}, VP a l → (∀ p ∈ l, a < p.f0) ∧ ∀ (i j : Nat) (hi : i < l.length) (hj : j < l.length), i < j → (l[i]).f0 < (l[j]).f0
  | [], _, _ => ⟨fun p hp => by simp at hp, fun i j hi => by simp at hi⟩
  | p :: l, a, h => by
    obtain ⟨h1, _, _, h4⟩ := h
    obtain ⟨g1, g2⟩ := VP.asc h4
    refine ⟨fun q hq => ?_, fun i j hi hj hij => ?_⟩
    · rcases List.mem_cons.1 hq with rfl | hq
      · exact h1
      · have := g1 q hq; omega
    · cases j with
      | zero => omega
      | succ j => cases i with
        | zero => exact g1 _ (List.getElem_mem _)
        | succ i => exact g2 i j (by simpa using hi) (by simpa using hj) (by omega)
/-- One list costs no more than the other and their distance. -/
theorem cst_tri {a b c : List Int} {k : Nat} (e : Ed a b k) : cst a c ≤ k + cst b c := by
  obtain ⟨⟨p, q, s, hc, ed⟩, _⟩ := cst_is b c
  obtain ⟨m, hm, edm⟩ := e.trans ed
  have := (cst_is a c).2 p q s m hc edm
  omega
theorem hloop_ok {part : List Int} (Hp : Hd part) (it : Int) (k : Int) : ∀ (P : List S34), (∀ p ∈ P, Pr p.f1) → ∃ q, fp_hloop part it k P = some q ∧ (q = false → ∀ p ∈ P, p.f0 ≠ it → 2 * k < (cst part p.f1 : Int))
  | [], _ => ⟨false, rfl, fun _ p hp => by simp at hp⟩
  | p :: P, h => by
    obtain ⟨n, e, hn⟩ := cost_f Hp (h p (by simp)) (k := 100000) (by omega)
    have hc : cst part p.f1 = n := (cst_is part p.f1).eq hn
    obtain ⟨q, e2, h2⟩ := hloop_ok Hp it k P (fun x hx => h x (by simp [hx]))
    simp only [fp_hloop]
    rw [e, Option.bind_some, if_pos rfl]
    by_cases c : p.f0 ≠ it ∧ (n : Int) ≤ 2 * k
    · rw [if_pos c]
      exact ⟨true, rfl, fun z => by cases z⟩
    · rw [if_neg c, e2]
      refine ⟨q, rfl, fun z x hx hne => ?_⟩
      rcases List.mem_cons.1 hx with rfl | hx
      · rw [hc]
        have : ¬ ((n : Int) ≤ 2 * k) := fun y => c ⟨hne, y⟩
        omega
      · exact h2 z x hx hne
theorem madeL_16 : ∀ (i : Nat) (l : List (List Int)), ∀ p ∈ madeL i l, p.f1.length ≤ 16
  | _, [], p, h => by simp [madeL] at h
  | i, x :: l, p, h => by
    rw [madeL, List.mem_cons] at h
    rcases h with rfl | h
    · exact (codes_pr x).2
    · exact madeL_16 (i + 1) l p h
theorem made_16 (z : List (List Int)) : ∀ p ∈ madeP z, p.f1.length ≤ 16 := fun p h => by
  rw [madeP, List.mem_cons] at h
  rcases h with rfl | h
  · decide
  · exact madeL_16 0 _ p h
end Go.Proofs.Ytgaepndbfpfniaa.PFB
