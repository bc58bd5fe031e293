/- The plain law TimelineDiff over the printed functions; no condition but the numbers' kinds and the lists' lengths. -/
import Derived.Test.YtbhngbjopfjacaaPS15x22
import Derived.Test.YtbhngbjopfjacaaTL
namespace Go.Proofs.Ytbhngbjopfjacaa.Pure
open Go.RowKit Go.Proofs.Ytbhngbjopfjacaa.PS15 Go.Proofs.YtbhngbjopfjacaaW.PrintWords Go.Proofs.YtbhngbjopfjacaaW.PrintLast

theorem sane_f {k : Nat} (hk : 1000 ≤ k) : airchecklaw15_sane.f k = some true :=
  at_rounds airchecklaw15_sane.mono hk (by
    unfold airchecklaw15_sane.f
    exact if_pos ⟨by kernel_rfl, by kernel_rfl, by kernel_rfl, by kernel_rfl, by kernel_rfl, by kernel_rfl, by kernel_rfl, by kernel_rfl, by kernel_rfl, by kernel_rfl, by kernel_rfl, by kernel_rfl, by kernel_rfl, by kernel_rfl, by kernel_rfl, by kernel_rfl, by kernel_rfl, by kernel_rfl, by kernel_rfl, by kernel_rfl, by kernel_rfl⟩)
theorem diff_l1 {a b : List S25} {e f1 : Int} (ha : Tl a e) (hb : Tl b e) (hl : a.length + b.length ≤ 190) (dd : List S45) (x21 : Int) (parts : List S25) (hn : parts.length ≤ 200) (hf : f1 ≤ e) (d : Nat) : ∀ (k j : Nat) (p q : Int), j + d = parts.length → d + 1 ≤ k → 0 ≤ p → p ≤ q → (d = 0 → p = q) →
    Cont (parts.drop j) q f1 → (∀ s ∈ parts.drop j, Go.Proofs.Ytbhngbjopfjacaa.PS15.Good s) → (∀ t, p ≤ t → t < q → own a t = own b t) → (∀ t, q ≤ t → t < f1 → own b t = own (parts.drop j) t) →
    airchecklaw15_TimelineDiff.l1 k b dd (tl_joinP b a p) x21 parts (j : Int) = airchecklaw15_TimelineDiff.l0 (k - (d + 1)) b dd (tl_joinP b a f1) (wrap64 (x21 + 1)) := by
  induction d with
  | zero =>
    intro k j p q hj hk hp hq hz hc hg hab hbp
    obtain ⟨k, rfl⟩ : ∃ m, k = m + 1 := ⟨k - 1, by omega⟩
    simp only [airchecklaw15_TimelineDiff.l1]
    rw [List.drop_eq_nil_of_le (by omega)] at hc
    have e1 : q = f1 := hc
    have e2 := hz rfl
    rw [if_neg (by omega), e2, e1]
    simp
  | succ d ih =>
    intro k j p q hj hk hp hq hz hc hg hab hbp
    obtain ⟨k, rfl⟩ : ∃ m, k = m + 1 := ⟨k - 1, by omega⟩
    have hlt : j < parts.length := by omega
    rw [List.drop_eq_getElem_cons hlt] at hc hg hbp
    obtain ⟨x, hx⟩ : ∃ x, parts[j] = x := ⟨_, rfl⟩
    rw [hx] at hc hg hbp
    have g := hg x (by simp)
    have hle := hc.2.2.le
    have x0 := hc.1
    have x1 := hc.2.1
    obtain ⟨q1, q2, q3⟩ := join_tl hb ha (t := p) (by omega) (by omega) (by omega)
    have hbc : ∀ t, x.f0 ≤ t → t < x.f1 → own b t = some x.f2 := fun t t0 t1 => by
      rw [hbp t (by omega) (by omega)]
      simp only [own]
      rw [if_pos ⟨t0, t1⟩]
    simp only [airchecklaw15_TimelineDiff.l1]
    rw [if_pos (by omega), if_pos (by omega), rd25 hlt, hx, put_f q1 (by omega) (by omega) (by omega) (by omega) g.1 g.2.1, Option.bind_some, if_pos rfl, tl_wrap_up hlt (by omega),
      put_join ha hb hp (by omega) (by omega) (by omega) (fun t t0 t1 => hab t t0 (by omega)) hbc g.1 g.2.1,
      ih k (j + 1) x.f1 x.f1 (by omega) (by omega) (by omega) (Int.le_refl _) (fun _ => rfl) hc.2.2 (fun s hs => hg s (by simp [hs])) (fun t t0 t1 => by omega) (fun t t0 t1 => by
        rw [hbp t (by omega) t1]
        simp only [own]
        rw [if_neg (by omega)])]
    congr 1
    omega
set_option maxRecDepth 100000 in
theorem diff_l0 {a b : List S25} {e : Int} (ha : Tl a e) (hb : Tl b e) (hl : a.length + b.length ≤ 190) (dd : List S45) (hd : dd.length ≤ 100000) (hu : DU a b dd e) (d : Nat) : ∀ (k i : Nat) (p : Int), i + d = dd.length → d * 300 + 300 ≤ k → 0 ≤ p → p ≤ e →
    (∀ x ∈ dd.drop i, p < x.f0 ∨ (i = 0 ∧ p = 0)) → (∀ t, p ≤ t → t < e → inB dd t = inB (dd.drop i) t) → Sep (p - 1) (dd.drop i) → (0 < i → ∃ h : i - 1 < dd.length, p = (dd[i - 1]).f1) →
    airchecklaw15_TimelineDiff.l0 k b dd (tl_joinP b a p) (i : Int) = some true := by
  induction d with
  | zero =>
    intro k i p hi hk hp hpe hx hin hsep hprev
    obtain ⟨k, rfl⟩ : ∃ m, k = m + 1 := ⟨k - 1, by omega⟩
    simp only [airchecklaw15_TimelineDiff.l0]
    rw [List.drop_eq_nil_of_le (by omega)] at hin
    obtain ⟨q1, q2, q3⟩ := join_tl hb ha (t := p) hp (by omega) (by omega)
    have e1 : tl_joinP b a p = b := same_of_tl q1 hb (fun t t0 t1 => by
      rw [q2 t t0 t1]
      by_cases c : t < p
      · rw [if_pos c]
      · rw [if_neg c]
        have h1 := hin t (by omega) t1
        rw [hu.2.2.2] at h1
        simp [inB] at h1
        exact h1 t0 t1)
    rw [if_neg (by omega), e1, same_refl _ (by omega) (by omega), Option.bind_some]
  | succ d ih =>
    intro k i p hi hk hp hpe hx hin hsep hprev
    obtain ⟨k, rfl⟩ : ∃ m, k = m + 2 := ⟨k - 2, by omega⟩
    have hlt : i < dd.length := by omega
    have hk' : ∀ n : Nat, n ≤ 200 → d * 300 + 300 ≤ k - (n + 1) := fun n hn => by omega
    rw [List.drop_eq_getElem_cons hlt] at hx hin hsep
    obtain ⟨x, hxe⟩ : ∃ x, dd[i] = x := ⟨_, rfl⟩
    rw [hxe] at hx hin hsep
    have hxm : x ∈ dd := by rw [← hxe]; exact List.getElem_mem hlt
    have hxs := Sep.le hu.1 x hxm
    have hue := hu.2.1
    have hp0 : p ≤ x.f0 := by have := hsep.1; omega
    have hx1 := hsep.2.1
    have hlow : ∀ t, inB (x :: dd.drop (i + 1)) t = (decide (x.f0 ≤ t) && decide (t < x.f1) || inB (dd.drop (i + 1)) t) := fun t => inB_cons _ _ _
    obtain ⟨w1, w2, w3, w4, w5⟩ := within_tl hb (a := x.f0) (b := x.f1) (by omega) (by omega) (by omega)
    have step : airchecklaw15_TimelineDiff.j3 (k + 1) b dd (tl_joinP b a p) (i : Int) false = some true := by
      simp only [airchecklaw15_TimelineDiff.j3]
      rw [if_neg (by simp), if_pos (by omega), if_pos (by omega), rd45 hlt, hxe, within_f hb (by omega) (by omega) hx1 (by omega), Option.bind_some, if_pos rfl]
      have hab : ∀ t, p ≤ t → t < x.f0 → own a t = own b t := fun t t0 t1 => by
        have h1 := hin t t0 (by omega)
        rw [hu.2.2.2, hlow, inB_low hsep.2.2 (by omega)] at h1
        have h2 : (decide (x.f0 ≤ t) && decide (t < x.f1)) = false := by simp; omega
        rw [h2] at h1
        simp at h1
        exact h1 (by omega) (by omega)
      have := diff_l1 ha hb hl dd (i : Int) (tl_addAll [] (tl_clip b x.f0 x.f1)) (by omega) (show x.f1 ≤ e by omega) (tl_addAll [] (tl_clip b x.f0 x.f1)).length k 0 p x.f0 (by omega) (by omega) hp hp0
        (fun h0 => by
          have h1 := List.eq_nil_of_length_eq_zero h0
          rw [h1] at w1
          have : x.f0 = x.f1 := w1
          omega) w1 w3 hab (fun t t0 t1 => (w4 t t0 t1).symm)
      rw [show ((0 : Nat) : Int) = 0 from rfl] at this
      rw [this, tl_wrap_up hlt (by omega)]
      refine ih (k - ((tl_addAll [] (tl_clip b x.f0 x.f1)).length + 1)) (i + 1) x.f1 (by omega) (hk' _ (Nat.le_trans w5 (by omega))) (by omega) (by omega) (fun y hy => Or.inl (Sep.le hsep.2.2 y hy).1) (fun t t0 t1 => ?_) ?_ (fun _ => ⟨by omega, by
        have : i + 1 - 1 = i := by omega
        simp only [this, hxe]⟩)
      · rw [hin t (by omega) t1, hlow]
        have h2 : (decide (x.f0 ≤ t) && decide (t < x.f1)) = false := by simp; omega
        rw [h2, Bool.false_or]
      · have h3 := hsep.2.2
        cases hdr : dd.drop (i + 1) with
        | nil => trivial
        | cons y l =>
          rw [hdr] at h3
          exact ⟨by have := h3.1; omega, h3.2⟩
    simp only [airchecklaw15_TimelineDiff.l0]
    rw [if_pos (by omega)]
    by_cases c : i = 0
    · subst c
      rw [if_neg (by omega)]
      exact step
    · obtain ⟨hq, hp1⟩ := hprev (by omega)
      have hw : wrap64 ((i : Int) - 1) = ((i - 1 : Nat) : Int) := tl_wrap_dec (by omega) (by omega)
      rw [if_pos (by omega), if_pos (by omega), hw, if_pos (by omega), if_pos (by omega), rd45 hlt, rd45 hq, ← hp1, hxe]
      have hgt : p < x.f0 := by
        rcases hx x (by simp) with h | h
        · exact h
        · omega
      rw [decide_eq_false (by omega)]
      exact step
theorem TimelineDiff : airchecklaw15_TimelineDiff.Pure := by
  intro a0 l1 l2 a3 h0 h1 h2 h3
  refine ⟨2000000, ?_⟩
  unfold airchecklaw15_TimelineDiff.f
  have he := endP_in a0
  obtain ⟨A1, A2, _⟩ := made_tl a0 l1
  obtain ⟨B1, B2, _⟩ := made_tl a0 l2
  have p1 := pickP_in (a := a3) (n := endP a0) (by omega)
  have hl1 : l1.length ≤ 9223372036854775806 := by have := h1.2.1; omega
  have hl2 : l2.length ≤ 9223372036854775806 := by have := h2.2.1; omega
  have e0 : wrap64 (1 + pickP a0 400) = endP a0 := wrap_id (by unfold endP at he; omega) (by unfold endP at he; omega)
  obtain ⟨p, r1, r2⟩ := at_tl (t := pickP a3 (endP a0)) A1 (by omega) p1.1 p1.2 (by omega)
  obtain ⟨q, s1, s2⟩ := at_tl (t := pickP a3 (endP a0)) B1 (by omega) p1.1 p1.2 (by omega)
  have D := diff_du A1 B1
  have R := diff_du B1 A1
  have eDR : tl_diffP (madeP a0 l2) (madeP a0 l1) = tl_diffP (madeP a0 l1) (madeP a0 l2) := sep_eq R.1 D.1 (fun t => by
    rw [R.2.2.2, D.2.2.2]
    have : (0 ≤ t ∧ t < endP a0 ∧ own (madeP a0 l2) t ≠ own (madeP a0 l1) t) ↔ (0 ≤ t ∧ t < endP a0 ∧ own (madeP a0 l1) t ≠ own (madeP a0 l2) t) := by
      constructor
      · rintro ⟨x, y, z⟩; exact ⟨x, y, fun h => z h.symm⟩
      · rintro ⟨x, y, z⟩; exact ⟨x, y, fun h => z h.symm⟩
    simp only [this])
  have hlen : (tl_diffP (madeP a0 l1) (madeP a0 l2)).length ≤ 41 * 41 := by
    have := diff_len (madeP a0 l2) 41 B2 (madeP a0 l1) []
    have h4 : 41 * (madeP a0 l1).length ≤ 41 * 41 := Nat.mul_le_mul_left _ A2
    simp at this
    exact Nat.le_trans this h4
  obtain ⟨sm, m1, m2⟩ := same_f (madeP a0 l1) (madeP a0 l2) (by omega) (k := 2000000) (by omega)
  rw [sane_f (by omega), Option.bind_some, if_pos rfl, made_f (I64.of h0) l1 hl1 h1.2.2 (by omega), Option.bind_some, made_f (I64.of h0) l2 hl2 h2.2.2 (by omega), Option.bind_some, diff_f A1 B1 (by omega) (by omega), Option.bind_some, diff_f B1 A1 (by omega) (by omega), Option.bind_some, if_pos rfl, if_pos rfl, eDR, samesp_refl _ (by dsimp only; omega) (by dsimp only; omega), Option.bind_some, if_pos rfl, m1, Option.bind_some]
  obtain ⟨dd, hdd⟩ : ∃ dd, tl_diffP (madeP a0 l1) (madeP a0 l2) = dd := ⟨_, rfl⟩
  rw [hdd] at D hlen
  rw [hdd]
  have e1 : (((dd.length : Int) == 0) != sm) = false := by
    by_cases c : madeP a0 l1 = madeP a0 l2
    · have : dd = [] := sep_nil D.1 (fun t => by rw [D.2.2.2, c]; simp)
      rw [m2.2 c, this]
      rfl
    · have c1 : sm = false := by cases sm; rfl; exact absurd (m2.1 rfl) c
      have c2 : dd ≠ [] := fun hh => c (same_of_tl A1 B1 (fun t t0 t1 => by
        have h4 := D.2.2.2 t
        rw [hh] at h4
        simp [inB] at h4
        exact h4 t0 t1))
      have c3 : dd.length ≠ 0 := fun hh => c2 (List.eq_nil_of_length_eq_zero hh)
      rw [c1]
      rw [beq_eq_false_iff_ne.2 (show ((dd.length : Int)) ≠ 0 by omega)]
      rfl
  simp only [e1]
  simp only [airchecklaw15_TimelineDiff.j0]
  rw [if_neg (by simp), pick_f (I64.of h0) (by omega), Option.bind_some, e0, pick_f (I64.of h3) (by omega), Option.bind_some, r2, Option.bind_some, s2, Option.bind_some, if_pos rfl, if_pos rfl, in_f dd _ (by omega) (by omega), Option.bind_some]
  have e2 : (inB dd (pickP a3 (endP a0)) != (p != q)) = false := by
    rw [D.2.2.2, r1, s1]
    by_cases c : p = q
    · simp [c]
    · have c' : (p != q) = true := bne_iff_ne.2 c
      rw [c']
      simp [c, p1.1, p1.2]
  simp only [e2]
  simp only [airchecklaw15_TimelineDiff.j1]
  rw [if_neg (by simp)]
  have hj : tl_joinP (madeP a0 l2) (madeP a0 l1) 0 = madeP a0 l1 := by
    obtain ⟨q1, q2, q3⟩ := join_tl B1 A1 (t := 0) (by omega) (by omega) (by omega)
    exact same_of_tl q1 A1 (fun t t0 t1 => by rw [q2 t t0 t1, if_neg (by omega)])
  have := diff_l0 A1 B1 (by omega) dd (by omega) D dd.length 1999998 0 0 (by omega) (by omega) (by omega) (by omega) (fun x hx => ?_) (fun t _ _ => by rw [List.drop_zero]) (by simpa using D.1) (by omega)
  · rw [hj] at this
    exact this
  · exact Or.inr ⟨rfl, rfl⟩

end Go.Proofs.Ytbhngbjopfjacaa.Pure
