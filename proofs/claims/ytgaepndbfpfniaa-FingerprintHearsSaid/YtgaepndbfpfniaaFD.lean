/- The plain theory of fingerprints, on; no condition. -/
import Derived.Test.YtgaepndbfpfniaaFP
namespace Go.Proofs.Ytgaepndbfpfniaa.PFB
open Go.RowKit Go.Proofs.YtgaepndbfpfniaaW.PrintWords Go.Proofs.YtgaepndbfpfniaaW.PrintLast Go.Proofs.YtgaepndbfpfniaaW.PrintMore
/-! Scripts, and that a match's own script is accepted. -/
inductive Ops : List Int → List Int → List Int → Nat → Prop
  | nil : Ops [] [] [] 0
  | keep (x : Int) {h p s : List Int} {n : Nat} : Ops h p s n → Ops (x :: h) (x :: p) (1 :: s) n
  | other (x y : Int) {h p s : List Int} {n : Nat} : x ≠ y → Ops h p s n → Ops (x :: h) (y :: p) (2 :: s) (n + 1)
  | extra (x : Int) {h p s : List Int} {n : Nat} : Ops h p s n → Ops (x :: h) p (3 :: s) (n + 1)
  | lost (y : Int) {h p s : List Int} {n : Nat} : Ops h p s n → Ops h (y :: p) (4 :: s) (n + 1)
theorem Ops.ed {h p s : List Int} {n : Nat} (o : Ops h p s n) : Ed h p n := by
  induction o with
  | nil => exact .nil
  | keep x _ ih => exact .keep x ih
  | other x y _ _ ih => exact .other x y ih
  | extra x _ ih => exact .extra x ih
  | lost y _ ih => exact .lost y ih
theorem Ops.len {h p s : List Int} {n : Nat} (o : Ops h p s n) : s.length ≤ h.length + p.length ∧ n ≤ s.length := by
  induction o with
  | nil => simp
  | keep x _ ih => simp; omega
  | other x y _ _ ih => simp; omega
  | extra x _ ih => simp; omega
  | lost y _ ih => simp; omega
theorem rowsF_getD (b : List Int) : ∀ (a r : List Int) (i : Nat), i ≤ a.length → (r :: fp_rowsF b r a).getD i [] = (a.take i).foldl (fun r x => fp_next x b r) r
  | [], r, i, h => by
    obtain rfl : i = 0 := by simpa using h
    rfl
  | x :: a, r, 0, h => rfl
  | x :: a, r, i + 1, h => by
    rw [fp_rowsF, List.getD_cons_succ, rowsF_getD b a _ i (by simpa using h)]
    rfl
theorem rowsP_getD (a b : List Int) (free : Bool) {i : Nat} (h : i ≤ a.length) : (fp_rowsP a b free).getD i [] = fp_lastP (a.take i) b free := rowsF_getD b a _ i h
theorem errT_eq {h p h0 p0 h1 p1 : List Int} (eh : h = h1 ++ h0) (ep : p = p1 ++ p0) (hh : h.length ≤ 60) (hp : p.length ≤ 60) : fp_errT (fp_tableB h p) h0.length p0.length = (lev h0 p0 : Int) := by
  unfold fp_errT fp_tableB
  have l1 : h.length = h1.length + h0.length := by rw [eh, List.length_append]
  have l2 : p.length = p1.length + p0.length := by rw [ep, List.length_append]
  have e1 : h.reverse.take h0.length = h0.reverse := by rw [eh, List.reverse_append, List.take_append_of_le_length (by simp), List.take_of_length_le (by simp)]
  have e2 : p.reverse.take p0.length = p0.reverse := by rw [ep, List.reverse_append, List.take_append_of_le_length (by simp), List.take_of_length_le (by simp)]
  rw [rowsP_getD _ _ _ (by simp; omega), e1, lastP_eq _ _ _ (by simp; omega) (by simp; omega), rowG_rd _ _ _ (by simp; omega), e2]
  simp [tabD]
theorem opsF_ok {h p : List Int} (hh : h.length ≤ 60) (hp : p.length ≤ 60) : ∀ (k : Nat) (h0 p0 h1 p1 : List Int), h = h1 ++ h0 → p = p1 ++ p0 → h0.length + p0.length < k →
    ∃ s, fp_opsF (fp_tableB h p) k h0 p0 = some s ∧ Ops h0 p0 s (lev h0 p0)
  | 0, _, _, _, _, _, _, hk => absurd hk (by omega)
  | k + 1, [], [], h1, p1, eh, ep, hk => ⟨[], rfl, by rw [lev_nil]; exact .nil⟩
  | k + 1, [], y :: p0, h1, p1, eh, ep, hk => by
    obtain ⟨s, e, o⟩ := opsF_ok hh hp k [] p0 h1 (p1 ++ [y]) eh (by simpa using ep) (by simp at hk ⊢; omega)
    refine ⟨4 :: s, by rw [fp_opsF, e]; rfl, ?_⟩
    rw [lev_nil] at o ⊢
    exact .lost y o
  | k + 1, x :: h0, [], h1, p1, eh, ep, hk => by
    obtain ⟨s, e, o⟩ := opsF_ok hh hp k h0 [] (h1 ++ [x]) p1 (by simpa using eh) ep (by simp at hk ⊢; omega)
    have t1 := errT_eq (h0 := h0) (p0 := []) (h1 := h1 ++ [x]) (by simpa using eh) ep hh hp
    have t2 := errT_eq (h0 := x :: h0) (p0 := []) eh ep hh hp
    have hl : h0.length < 60 := by have := congrArg List.length eh; simp at this; omega
    simp only [List.length_nil, List.length_cons] at t1 t2
    refine ⟨3 :: s, ?_, ?_⟩
    · rw [fp_opsF, t1, t2, lev_nil', lev_nil', wrap_id (by omega) (by omega), if_pos (by simp), e]; rfl
    · rw [lev_nil'] at o ⊢
      exact .extra x o
  | k + 1, x :: h0, y :: p0, h1, p1, eh, ep, hk => by
    have eh' : h = (h1 ++ [x]) ++ h0 := by simpa using eh
    have ep' : p = (p1 ++ [y]) ++ p0 := by simpa using ep
    have hk' : h0.length + p0.length + 2 < k + 1 := by simp at hk; omega
    obtain ⟨s1, e1, o1⟩ := opsF_ok hh hp k h0 p0 _ _ eh' ep' (by omega)
    obtain ⟨s2, e2, o2⟩ := opsF_ok hh hp k h0 (y :: p0) _ _ eh' ep (by simp; omega)
    obtain ⟨s3, e3, o3⟩ := opsF_ok hh hp k (x :: h0) p0 _ _ eh ep' (by simp; omega)
    have t0 := errT_eq eh ep hh hp
    have t1 := errT_eq eh' ep' hh hp
    have t2 := errT_eq eh' ep hh hp
    have hl : h0.length < 60 := by have := congrArg List.length eh; simp at this; omega
    have pl : p0.length < 60 := by have := congrArg List.length ep; simp at this; omega
    have bd := (lev_le (Ed.trans (Ed.dels h0) (Ed.dels p0).symm).choose_spec.2)
    have bd2 := (Ed.trans (Ed.dels h0) (Ed.dels p0).symm).choose_spec.1
    have bl := lev_lost y h0 p0
    have be := lev_extra x h0 p0
    simp only [List.length_cons] at t0 t2
    have lc := lev_cons x y h0 p0
    have hn : ne01 x y = 0 ∧ x = y ∨ ne01 x y = 1 ∧ x ≠ y := by unfold ne01; split <;> simp [*]
    rw [fp_opsF, t0, t1, t2, wrap_id (x := ((lev h0 p0 : Nat) : Int) + 1) (by omega) (by omega), wrap_id (x := ((lev h0 (y :: p0) : Nat) : Int) + 1) (by omega) (by omega)]
    by_cases c1 : x = y ∧ (lev h0 p0 : Int) = (lev (x :: h0) (y :: p0) : Int)
    · rw [if_pos c1, e1]
      obtain ⟨rfl, c1⟩ := c1
      refine ⟨1 :: s1, rfl, ?_⟩
      rw [← (by omega : lev h0 p0 = lev (x :: h0) (x :: p0))]
      exact .keep x o1
    · rw [if_neg c1]
      by_cases c2 : x ≠ y ∧ (lev h0 p0 : Int) + 1 = (lev (x :: h0) (y :: p0) : Int)
      · rw [if_pos c2, e1]
        refine ⟨2 :: s1, rfl, ?_⟩
        rw [← (by omega : lev h0 p0 + 1 = lev (x :: h0) (y :: p0))]
        exact .other x y c2.1 o1
      · rw [if_neg c2]
        by_cases c3 : (lev h0 (y :: p0) : Int) + 1 = (lev (x :: h0) (y :: p0) : Int)
        · rw [if_pos c3, e2]
          refine ⟨3 :: s2, rfl, ?_⟩
          rw [← (by omega : lev h0 (y :: p0) + 1 = lev (x :: h0) (y :: p0))]
          exact .extra x o2
        · rw [if_neg c3, e3]
          refine ⟨4 :: s3, rfl, ?_⟩
          have c4 : lev (x :: h0) p0 + 1 = lev (x :: h0) (y :: p0) := by
            rcases hn with ⟨n1, n2⟩ | ⟨n1, n2⟩
            · have : ¬ ((lev h0 p0 : Int) = (lev (x :: h0) (y :: p0) : Int)) := fun h => c1 ⟨n2, h⟩
              omega
            · have : ¬ ((lev h0 p0 : Int) + 1 = (lev (x :: h0) (y :: p0) : Int)) := fun h => c2 ⟨n2, h⟩
              omega
          rw [← c4]
          exact .lost y o3
theorem steps_f {h p : List Int} (hh : h.length ≤ 60) (hp : p.length ≤ 60) : ∃ s, fingerprint_steps.f h p = some s ∧ Ops h p s (lev h p) := by
  unfold fingerprint_steps.f
  rw [if_pos (by omega), if_pos (by omega)]
  exact opsF_ok hh hp _ h p [] [] rfl rfl (by omega)
theorem ops_l0 (ops : List Int) (hl : ops.length ≤ 1000) (it fr tt co : Int) (L : List Int) (d : Nat) : ∀ (k i : Nat) (h p : List Int) (e n : Nat), i ≤ ops.length → ops.length - i = d → 4 * d + 1 ≤ k → Ops h p (ops.drop i) n → e + n ≤ 1000000 →
    fingerprint_Check.l0 k h p (e : Int) ops (ops.length : Int) (i : Int) it fr tt co L = some (decide (((e + n : Nat) : Int) = co)) := by
  induction d with
  | zero =>
    intro k i h p e n h1 h2 h3 o ho
    obtain ⟨k, rfl⟩ : ∃ m, k = m + 1 := ⟨k - 1, by omega⟩
    rw [List.drop_eq_nil_of_le (by omega)] at o
    cases o
    simp only [fingerprint_Check.l0]
    rw [if_neg (by omega), if_pos (by simp), if_pos (by simp)]
    simp [Bool.beq_eq_decide_eq]
  | succ d ih =>
    intro k i h p e n h1 h2 h3 o ho
    obtain ⟨k, rfl⟩ : ∃ m, k = m + 4 := ⟨k - 4, by omega⟩
    have hc : i < ops.length := by omega
    rw [List.drop_eq_getElem_cons hc] at o
    have wi := wrap_up hc (by omega)
    simp only [fingerprint_Check.l0]
    rw [if_pos (by omega), if_pos (by omega), if_pos (by omega), rd_get hc]
    generalize ops[i] = op at o
    cases o with
    | keep x o =>
      rename_i h p
      rw [if_neg (by omega), if_neg (by omega), if_neg (by omega), if_neg (by simp <;> omega), if_neg (by omega)]
      simp only [fingerprint_Check.j2, fingerprint_Check.j3, fingerprint_Check.j4]
      rw [if_neg (by simp <;> omega), if_pos (by decide), if_pos (by decide), if_pos (by simp <;> omega), if_pos (by simp <;> omega), if_neg (by simp [rd]), if_pos trivial, if_pos (by decide), if_pos (by simp <;> omega), Option.bind_some, if_pos (by decide), if_pos (by simp <;> omega), wi]
      exact ih k (i + 1) h p e n (by omega) (by omega) (by omega) o ho
    | other x y hxy o =>
      rename_i h p n
      rw [if_neg (by omega), if_neg (by omega), if_neg (by omega), if_neg (by simp <;> omega), if_neg (by omega)]
      simp only [fingerprint_Check.j2, fingerprint_Check.j3, fingerprint_Check.j4]
      rw [if_neg (by simp <;> omega), if_pos (by decide), if_pos (by decide), if_pos (by simp <;> omega), if_pos (by simp <;> omega), if_neg (by simp [rd, hxy]), if_neg (by omega), if_pos (by decide), if_pos (by simp <;> omega), Option.bind_some, if_pos (by decide), if_pos (by simp <;> omega), wi, wrap_id (x := (e : Int) + 1) (by omega) (by omega)]
      have := ih k (i + 1) h p (e + 1) n (by omega) (by omega) (by omega) o (by omega)
      rw [show e + (n + 1) = e + 1 + n by omega]
      exact this
    | extra x o =>
      rename_i h n
      rw [if_neg (by omega), if_neg (by omega), if_neg (by omega), if_neg (by simp <;> omega), if_pos rfl]
      simp only [fingerprint_Check.j2, fingerprint_Check.j3, fingerprint_Check.j4]
      rw [if_neg (by simp), if_pos (by decide), if_neg (by decide), if_neg (by simp), if_neg (by omega), if_pos (by decide), if_pos (by simp <;> omega), Option.bind_some, if_neg (by decide), wi, wrap_id (x := (e : Int) + 1) (by omega) (by omega)]
      have := ih k (i + 1) h p (e + 1) n (by omega) (by omega) (by omega) o (by omega)
      rw [show e + (n + 1) = e + 1 + n by omega]
      exact this
    | lost y o =>
      rename_i p n
      rw [if_neg (by omega), if_neg (by omega), if_pos rfl, if_neg (by omega)]
      simp only [fingerprint_Check.j2, fingerprint_Check.j3, fingerprint_Check.j4]
      rw [if_neg (by simp <;> omega), if_neg (by decide), if_neg (by simp), if_neg (by omega), if_neg (by decide), if_pos (by decide), if_pos (by simp <;> omega), wi, wrap_id (x := (e : Int) + 1) (by omega) (by omega)]
      have := ih k (i + 1) h p (e + 1) n (by omega) (by omega) (by omega) o (by omega)
      rw [show e + (n + 1) = e + 1 + n by omega]
      exact this
/-! The best match of one print. -/
theorem index_l0 (l : List Int) (hl : l.length ≤ 1000) (v : Int) (d : Nat) : ∀ (k i : Nat), i ≤ l.length → l.length - i = d → d + 1 ≤ k → (∀ j (h : j < l.length), j < i → l[j] ≠ v) →
    (∃ (t : Nat) (h : t < l.length), slices_Index_int_int.l0 k l v (l.length : Int) (i : Int) = some (t : Int) ∧ l[t] = v ∧ ∀ j (h : j < l.length), j < t → l[j] ≠ v) ∨
      (slices_Index_int_int.l0 k l v (l.length : Int) (i : Int) = some (-1) ∧ ∀ j (h : j < l.length), l[j] ≠ v) := by
  induction d with
  | zero =>
    intro k i h1 h2 h3 hb
    obtain ⟨k, rfl⟩ : ∃ m, k = m + 1 := ⟨k - 1, by omega⟩
    refine .inr ⟨?_, fun j h => hb j h (by omega)⟩
    simp only [slices_Index_int_int.l0]
    rw [if_neg (by omega)]
  | succ d ih =>
    intro k i h1 h2 h3 hb
    obtain ⟨k, rfl⟩ : ∃ m, k = m + 1 := ⟨k - 1, by omega⟩
    have hc : i < l.length := by omega
    simp only [slices_Index_int_int.l0]
    rw [if_pos (by omega), if_pos (by omega), if_pos (by omega), rd_get hc]
    by_cases c : v = l[i]
    · rw [if_pos c]
      exact .inl ⟨i, hc, rfl, c.symm, hb⟩
    · rw [if_neg c, wrap_up hc (by omega)]
      refine ih k (i + 1) (by omega) (by omega) (by omega) (fun j h hj => ?_)
      by_cases e : j = i
      · subst e; exact fun h => c h.symm
      · exact hb j h (by omega)
theorem index_f (l : List Int) (hl : l.length ≤ 1000) (v : Int) {k : Nat} (hk : l.length + 1 ≤ k) :
    (∃ (t : Nat) (h : t < l.length), slices_Index_int_int.f k l v = some (t : Int) ∧ l[t] = v ∧ ∀ j (h : j < l.length), j < t → l[j] ≠ v) ∨ (slices_Index_int_int.f k l v = some (-1) ∧ ∀ j (h : j < l.length), l[j] ≠ v) :=
  index_l0 l hl v l.length k 0 (by omega) (by omega) hk (fun j _ hj => absurd hj (by omega))
theorem drop_take (c : List Int) (i t : Nat) : (c.drop i).take t = (c.take (i + t)).drop i := by
  rw [List.drop_take]; congr 1; omega
/-- what Align answers -/
structure Best1 (h c : List Int) (i j n : Nat) (ops : List Int) : Prop where
  cost : IsCost h c n
  ij : i ≤ j
  jc : j ≤ c.length
  ops : Ops h ((c.take j).drop i) ops n
  lev : lev h ((c.take j).drop i) = n
  first : ∀ i' j', i' ≤ j' → j' ≤ c.length → PFB.lev h ((c.take j').drop i') = n → i < i' ∨ (i = i' ∧ j ≤ j')
theorem IsCost.le {h c : List Int} {n i j : Nat} (hn : IsCost h c n) (hij : i ≤ j) : n ≤ lev h ((c.take j).drop i) := hn.2 _ _ _ _ (cut_parts hij) (lev_ed _ _)
theorem IsCost.at {h c : List Int} {n : Nat} (hn : IsCost h c n) : ∃ i j, i ≤ j ∧ j ≤ c.length ∧ lev h ((c.take j).drop i) = n := by
  have hn' := hn
  obtain ⟨⟨p, q, s, e, d⟩, _⟩ := hn'
  have hq : (c.take (p.length + q.length)).drop p.length = q := by
    rw [e, List.take_append_of_le_length (by simp), List.take_of_length_le (by simp), List.drop_append_of_le_length (by simp), List.drop_of_length_le (by simp), List.nil_append]
  refine ⟨p.length, p.length + q.length, by omega, by rw [e]; simp, ?_⟩
  have h1 := hn.le (i := p.length) (j := p.length + q.length) (by omega)
  rw [hq] at h1 ⊢
  have := lev_le d
  omega
theorem row_at {h c : List Int} {i t : Nat} (ht : t < (rowG (tabD false) h.reverse [] (c.drop i)).length) : (rowG (tabD false) h.reverse [] (c.drop i))[t] = (lev h ((c.take (i + t)).drop i) : Int) := by
  have h1 := ht
  rw [rowG_length] at h1
  have h2 := rowG_get (tabD false) h.reverse (c.drop i) [] t (by omega)
  rw [List.getElem?_eq_getElem ht, List.append_nil] at h2
  rw [Option.some.inj h2, drop_take]
  show (lev h.reverse ((c.take (i + t)).drop i).reverse : Int) = _
  rw [lev_rev]
theorem align_l0 {h c : List Int} {n : Nat} (Hh : Hd h) (Hc : Pr c) (hn : IsCost h c n) (d : Nat) : ∀ (k i : Nat), i ≤ c.length + 1 → c.length + 1 - i = d → d + 100 ≤ k →
    (∀ i' j', i' < i → i' ≤ j' → j' ≤ c.length → lev h ((c.take j').drop i') ≠ n) →
    ∃ (i2 j2 : Nat) (ops : List Int), fingerprint_Align.l0 k h c (n : Int) ((c.length : Int) + 1) (i : Int) = some (0, (i2 : Int), (j2 : Int), (n : Int), ops, 0) ∧ Best1 h c i2 j2 n ops := by
  have hh := Hh.1
  have hc := Hc.2.1
  induction d with
  | zero =>
    intro k i h1 h2 h3 hb
    obtain ⟨i', j', e1, e2, e3⟩ := hn.at
    exact absurd e3 (hb i' j' (by omega) e1 e2)
  | succ d ih =>
    intro k i h1 h2 h3 hb
    obtain ⟨k, rfl⟩ : ∃ m, k = m + 1 := ⟨k - 1, by omega⟩
    simp only [fingerprint_Align.l0]
    rw [if_pos (by omega), if_pos (by omega), if_pos (by omega), Int.toNat_natCast, last_f hh (by simp; omega), Option.bind_some]
    have hrl := rowG_length (tabD false) h.reverse (c.drop i) []
    rw [List.length_drop] at hrl
    rcases index_f (rowG (tabD false) h.reverse [] (c.drop i)) (by omega) (n : Int) (k := k) (by omega) with ⟨t, ht, e, et, em⟩ | ⟨e, em⟩
    · rw [e, Option.bind_some, if_pos (by omega), wrap_id (x := (i : Int) + t) (by omega) (by omega), if_pos (by omega), if_pos (by omega)]
      rw [show ((i : Int) + t) = ((i + t : Nat) : Int) by omega, Int.toNat_natCast]
      rw [row_at ht] at et
      have et' : lev h ((c.take (i + t)).drop i) = n := by omega
      obtain ⟨s, es, os⟩ := steps_f (h := h) (p := (c.take (i + t)).drop i) hh (by simp; omega)
      refine ⟨i, i + t, s, by rw [es]; rfl, hn, by omega, by omega, et' ▸ os, et', fun i' j' q1 q2 q3 => ?_⟩
      by_cases c1 : i' < i
      · exact absurd q3 (hb i' j' c1 q1 q2)
      · by_cases c2 : i = i'
        · refine .inr ⟨c2, ?_⟩
          subst c2
          apply Nat.le_of_not_lt
          intro c3
          refine em (j' - i) (by omega) (by omega) ?_
          rw [row_at (by omega), show i + (j' - i) = j' by omega, q3]
        · exact .inl (by omega)
    · rw [e, Option.bind_some, if_neg (by omega), show wrap64 ((i : Int) + 1) = ((i + 1 : Nat) : Int) by rw [wrap_id (by omega) (by omega)]; omega]
      refine ih k (i + 1) (by omega) (by omega) (by omega) (fun i' j' q0 q1 q2 q3 => ?_)
      by_cases c1 : i' < i
      · exact hb i' j' c1 q1 q2 q3
      · obtain rfl : i' = i := by omega
        refine em (j' - i') (by omega) ?_
        rw [row_at (by omega), show i' + (j' - i') = j' by omega, q3]
theorem align_f {h c : List Int} (Hh : Hd h) (Hc : Pr c) {k : Nat} (hk : 200 ≤ k) : ∃ (i j n : Nat) (ops : List Int), fingerprint_Align.f k h c = some (0, (i : Int), (j : Int), (n : Int), ops, 0) ∧ Best1 h c i j n ops := by
  obtain ⟨n, e, hn⟩ := cost_f Hh Hc (k := k) (by omega)
  have hc := Hc.2.1
  obtain ⟨i, j, ops, e1, b⟩ := align_l0 Hh Hc hn (c.length + 1) k 0 (by omega) (by omega) (by omega) (fun i' j' q => absurd q (by omega))
  refine ⟨i, j, n, ops, ?_, b⟩
  unfold fingerprint_Align.f
  rw [e, Option.bind_some, if_pos rfl, wrap_id (by omega) (by omega)]
  exact e1
theorem check_yes {h c : List Int} {i j n : Nat} {ops : List Int} (Hh : Hd h) (Hc : Pr c) (hij : i ≤ j) (hj : j ≤ c.length) (o : Ops h ((c.take j).drop i) ops n) (it : Int) {k : Nat} (hk : 600 ≤ k) :
    fingerprint_Check.f k h c it (i : Int) (j : Int) (n : Int) ops = some true := by
  obtain ⟨k, rfl⟩ : ∃ m, k = m + 1 := ⟨k - 1, by omega⟩
  have hl := o.len
  have hh := Hh.1
  have hc := Hc.2.1
  have hl2 : ((c.take j).drop i).length ≤ 60 := by simp; omega
  unfold fingerprint_Check.f
  rw [heard_f Hh, Option.bind_some, if_pos rfl, isPrint_f Hc, Option.bind_some, if_pos rfl, if_neg (by omega), if_neg (by omega)]
  simp only [fingerprint_Check.j0]
  rw [if_neg (by simp; omega), if_pos (by omega), if_pos (by omega), if_pos (by omega), Int.toNat_natCast, Int.toNat_natCast]
  have := ops_l0 ops (by omega) it i j n ops ops.length k 0 h _ 0 n (by omega) (by omega) (by omega) o (by omega)
  rw [show ((0 : Nat) : Int) = 0 from rfl] at this
  rw [this]
  simp
end Go.Proofs.Ytgaepndbfpfniaa.PFB
