/- The plain law TimelinePut over the printed functions; no condition but the numbers' kinds and the lists' lengths. -/
import Derived.Test.YtbhngbjopfjacaaPS15x20
import Derived.Test.YtbhngbjopfjacaaTL
namespace Go.Proofs.Ytbhngbjopfjacaa.Pure
open Go.RowKit Go.Proofs.Ytbhngbjopfjacaa.PS15 Go.Proofs.YtbhngbjopfjacaaW.PrintWords Go.Proofs.YtbhngbjopfjacaaW.PrintLast

theorem sane_f {k : Nat} (hk : 1000 ≤ k) : airchecklaw15_sane.f k = some true :=
  at_rounds airchecklaw15_sane.mono hk (by
    unfold airchecklaw15_sane.f
    exact if_pos ⟨by kernel_rfl, by kernel_rfl, by kernel_rfl, by kernel_rfl, by kernel_rfl, by kernel_rfl, by kernel_rfl, by kernel_rfl, by kernel_rfl, by kernel_rfl, by kernel_rfl, by kernel_rfl, by kernel_rfl, by kernel_rfl, by kernel_rfl, by kernel_rfl, by kernel_rfl, by kernel_rfl, by kernel_rfl, by kernel_rfl, by kernel_rfl⟩)
theorem put_j5 {L A : List S25} {e : Int} {s0 s1 : S25} (hL : Tl L e) (hl : L.length ≤ 50) (h0 : Ins e s0) (h1 : Ins e s1) (hA : A = tl_putP L s0.f0 s0.f1 s0.f2) {k : Nat} (hk : 300 ≤ k) :
    airchecklaw15_TimelinePut.j5 k L [s0, s1] A false = some true := by
  obtain ⟨k, rfl⟩ : ∃ m, k = m + 2 := ⟨k - 2, by omega⟩
  obtain ⟨p1, p2, p3⟩ := put_tl hL h0.1 h0.2.1 h0.2.2.1 h0.2.2.2.1 h0.2.2.2.2
  rw [← hA] at p1 p2 p3
  obtain ⟨q1, q2, q3⟩ := put_tl p1 h1.1 h1.2.1 h1.2.2.1 h1.2.2.2.1 h1.2.2.2.2
  obtain ⟨r1, r2, r3⟩ := put_tl hL h1.1 h1.2.1 h1.2.2.1 h1.2.2.2.1 h1.2.2.2.2
  obtain ⟨u1, u2, u3⟩ := put_tl r1 h0.1 h0.2.1 h0.2.2.1 h0.2.2.2.1 h0.2.2.2.2
  have e0 : rd_T25 [s0, s1] 0 = s0 := rfl
  have e1 : rd_T25 [s0, s1] 1 = s1 := rfl
  have n0 : (0 : Int) < ([s0, s1].length : Int) := by simp
  have n1 : (1 : Int) < ([s0, s1].length : Int) := by simp
  have j6 : ∀ b, (b = true ∨ s1.f1 ≤ s0.f0 ∨ s0.f1 ≤ s1.f0) → airchecklaw15_TimelinePut.j6 (k + 1) L [s0, s1] A b = some true := by
    intro b hb
    simp only [airchecklaw15_TimelinePut.j6]
    cases b with
    | true => rfl
    | false =>
      have hd : s1.f1 ≤ s0.f0 ∨ s0.f1 ≤ s1.f0 := by
        rcases hb with h | h
        · cases h
        · exact h
      have he : tl_putP A s1.f0 s1.f1 s1.f2 = tl_putP (tl_putP L s1.f0 s1.f1 s1.f2) s0.f0 s0.f1 s0.f2 := same_of_tl q1 u1 (fun t t0 t1 => by
        rw [q2, p2, u2, r2]
        by_cases c0 : s0.f0 ≤ t ∧ t < s0.f1
        · rw [if_neg (by omega), if_pos c0, if_pos c0]
        · rw [if_neg c0, if_neg c0])
      rw [if_neg (by simp), if_pos n1, e1, put_f p1 (by omega) h1.1 h1.2.1 h1.2.2.1 h1.2.2.2.1 h1.2.2.2.2, Option.bind_some, put_f hL (by omega) h1.1 h1.2.1 h1.2.2.1 h1.2.2.2.1 h1.2.2.2.2, Option.bind_some, if_pos n0, e0,
        put_f r1 (by omega) h0.1 h0.2.1 h0.2.2.1 h0.2.2.2.1 h0.2.2.2.2, Option.bind_some, if_pos rfl, if_pos rfl, if_pos rfl, he, same_refl _ (by dsimp only; omega) (by dsimp only; omega), Option.bind_some]
  simp only [airchecklaw15_TimelinePut.j5]
  rw [if_neg (by simp), if_pos n0, if_pos n1, e0, e1]
  by_cases c : s0.f1 > s1.f0
  · rw [if_pos c]
    refine j6 _ ?_
    by_cases d : s1.f1 > s0.f0
    · exact Or.inl (decide_eq_true d)
    · exact Or.inr (Or.inl (by omega))
  · rw [if_neg c]
    exact j6 _ (Or.inr (Or.inr (by omega)))
theorem put_l0 {L A : List S25} {e : Int} {s0 s1 : S25} (hL : Tl L e) (hl : L.length ≤ 50) (h0 : Ins e s0) (h1 : Ins e s1) (hA : A = tl_putP L s0.f0 s0.f1 s0.f2) (parts : List S25) (hn : parts.length ≤ 50)
    (hg : ∀ s ∈ parts, Go.Proofs.Ytbhngbjopfjacaa.PS15.Good s) (d : Nat) : ∀ (k j : Nat) (p : Int) (back : List S25), j + d = parts.length → d + 400 ≤ k → s0.f0 ≤ p → Cont (parts.drop j) p s0.f1 → (∀ t, p ≤ t → t < s0.f1 → own (parts.drop j) t = own L t) →
    Tl back e → back.length ≤ 60 + 2 * j → (∀ t, 0 ≤ t → t < e → own back t = if s0.f0 ≤ t ∧ t < p then own L t else own A t) →
    airchecklaw15_TimelinePut.l0 k L [s0, s1] A parts 0 back (j : Int) = some true := by
  induction d with
  | zero =>
    intro k j p back hj hk hp hc ho hb hbl hob
    obtain ⟨k, rfl⟩ : ∃ m, k = m + 1 := ⟨k - 1, by omega⟩
    simp only [airchecklaw15_TimelinePut.l0]
    rw [List.drop_eq_nil_of_le (by omega)] at hc
    have e1 : p = s0.f1 := hc
    obtain ⟨p1, p2, p3⟩ := put_tl hL h0.1 h0.2.1 h0.2.2.1 h0.2.2.2.1 h0.2.2.2.2
    rw [← hA] at p1 p2 p3
    have e2 : back = L := same_of_tl hb hL (fun t t0 t1 => by
      rw [hob t t0 t1, p2, e1]
      by_cases c : s0.f0 ≤ t ∧ t < s0.f1
      · rw [if_pos c]
      · rw [if_neg c, if_neg c])
    rw [if_neg (by omega), if_true, e2, same_refl _ (by omega) (by omega), Option.bind_some]
    exact put_j5 hL hl h0 h1 hA (by omega)
  | succ d ih =>
    intro k j p back hj hk hp hc ho hb hbl hob
    obtain ⟨k, rfl⟩ : ∃ m, k = m + 1 := ⟨k - 1, by omega⟩
    have hlt : j < parts.length := by omega
    rw [List.drop_eq_getElem_cons hlt] at hc ho
    obtain ⟨x, hx⟩ : ∃ x, parts[j] = x := ⟨_, rfl⟩
    rw [hx] at hc ho
    have g := hg x (by rw [← hx]; exact List.getElem_mem hlt)
    have hle := hc.2.2.le
    have x0 := hc.1
    have x1 := hc.2.1
    have i0 := h0.1
    have i1 := h0.2.2.1
    obtain ⟨q1, q2, q3⟩ := put_tl hb (a := x.f0) (b := x.f1) (c := x.f2) (by omega) (by omega) (by omega) g.1 g.2.1
    simp only [airchecklaw15_TimelinePut.l0]
    rw [if_pos (by omega), if_pos (by omega), rd25 hlt, hx, put_f hb (by omega) (by omega) (by omega) (by omega) g.1 g.2.1, Option.bind_some, if_pos rfl, tl_wrap_up hlt (by omega)]
    refine ih k (j + 1) x.f1 _ (by omega) (by omega) (by omega) hc.2.2 (fun t t0 t1 => ?_) q1 (by dsimp only; omega) (fun t t0 t1 => ?_)
    · rw [← ho t (by omega) t1]
      simp only [own]
      rw [if_neg (by omega)]
    · rw [q2, hob t t0 t1]
      by_cases c : x.f0 ≤ t ∧ t < x.f1
      · rw [if_pos c, if_pos (by omega), ← ho t (by omega) (by omega)]
        simp only [own]
        rw [if_pos c]
      · rw [if_neg c]
        by_cases c2 : s0.f0 ≤ t ∧ t < p
        · rw [if_pos c2, if_pos (by omega)]
        · rw [if_neg c2, if_neg (by omega)]
theorem TimelinePut : airchecklaw15_TimelinePut.Pure := by
  intro a0 l1 b0 b1 b2 b3 b4 b5 a3 h0 h1 h2 h3
  refine ⟨1000, ?_⟩
  unfold airchecklaw15_TimelinePut.f
  have he := endP_in a0
  obtain ⟨A1, A2, A3⟩ := made_tl a0 l1
  have p1 := pickP_in (a := a3) (n := endP a0) (by omega)
  have hl1 : l1.length ≤ 9223372036854775806 := by have := h1.2.1; omega
  have e0 : wrap64 (1 + pickP a0 400) = endP a0 := wrap_id (by unfold endP at he; omega) (by unfold endP at he; omega)
  have hq : ∀ x ∈ ([⟨b0, b1, b2⟩, ⟨b3, b4, b5⟩] : List S29), Q29 x := by
    intro x hx
    rcases List.mem_cons.1 hx with rfl | hx
    · exact h2.1
    · rcases List.mem_cons.1 hx with rfl | hx
      · exact h2.2
      · simp at hx
  obtain ⟨s0, hs0⟩ : ∃ s, span1 (endP a0) ⟨b0, b1, b2⟩ = s := ⟨_, rfl⟩
  obtain ⟨s1, hs1⟩ : ∃ s, span1 (endP a0) ⟨b3, b4, b5⟩ = s := ⟨_, rfl⟩
  have hs : spansP (endP a0) [⟨b0, b1, b2⟩, ⟨b3, b4, b5⟩] = [s0, s1] := by rw [← hs0, ← hs1]; rfl
  have i0 : Ins (endP a0) s0 := by rw [← hs0]; exact (span1_in (by omega) _).1
  have i1 : Ins (endP a0) s1 := by rw [← hs1]; exact (span1_in (by omega) _).1
  have n0 : (0 : Int) < ([s0, s1].length : Int) := by simp
  have r0 : rd_T25 [s0, s1] 0 = s0 := rfl
  obtain ⟨q1, q2, q3⟩ := put_tl A1 i0.1 i0.2.1 i0.2.2.1 i0.2.2.2.1 i0.2.2.2.2
  obtain ⟨u1, u2, u3⟩ := put_tl q1 i0.1 i0.2.1 i0.2.2.1 i0.2.2.2.1 i0.2.2.2.2
  have eu : tl_putP (tl_putP (madeP a0 l1) s0.f0 s0.f1 s0.f2) s0.f0 s0.f1 s0.f2 = tl_putP (madeP a0 l1) s0.f0 s0.f1 s0.f2 := same_of_tl u1 q1 (fun t t0 t1 => by
    rw [u2, q2]
    split <;> rfl)
  obtain ⟨o, v1, v2⟩ := at_tl (t := pickP a3 (endP a0)) A1 (by omega) p1.1 p1.2 (by omega)
  obtain ⟨m, w1, w2⟩ := at_tl (t := pickP a3 (endP a0)) q1 (by omega) p1.1 p1.2 (by omega)
  obtain ⟨x1, x2, x3, x4, x5⟩ := within_tl A1 i0.1 i0.2.1 i0.2.2.1
  rw [sane_f (by omega), Option.bind_some, if_pos rfl, made_f (I64.of h0) l1 hl1 h1.2.2 (by omega), Option.bind_some, pick_f (I64.of h0) (by omega), Option.bind_some, e0, spans_f (by omega) (by omega) _ (by simp) hq (by omega), Option.bind_some, hs, if_pos n0, r0,
    put_f A1 (by omega) i0.1 i0.2.1 i0.2.2.1 i0.2.2.2.1 i0.2.2.2.2, Option.bind_some, put_f q1 (by omega) i0.1 i0.2.1 i0.2.2.1 i0.2.2.2.1 i0.2.2.2.2, Option.bind_some, if_pos rfl, if_pos rfl, eu, same_refl _ (by dsimp only; omega) (by dsimp only; omega), Option.bind_some, if_pos rfl, end_tl q1 (by omega) (by omega), Option.bind_some]
  simp only [bne_self_eq_false]
  simp only [airchecklaw15_TimelinePut.j0]
  rw [if_neg (by simp), pick_f (I64.of h3) (by omega), Option.bind_some, v2, Option.bind_some, w2, Option.bind_some, if_pos n0, r0]
  rw [q2] at w1
  have j3 : ∀ k, 997 ≤ k → airchecklaw15_TimelinePut.j3 k (madeP a0 l1) [s0, s1] (tl_putP (madeP a0 l1) s0.f0 s0.f1 s0.f2) false = some true := by
    intro k hk
    obtain ⟨k, rfl⟩ : ∃ m, k = m + 1 := ⟨k - 1, by omega⟩
    simp only [airchecklaw15_TimelinePut.j3]
    rw [if_neg (by simp), if_pos n0, r0, within_f A1 (by omega) i0.1 i0.2.1 i0.2.2.1, Option.bind_some]
    refine put_l0 A1 (by omega) i0 i1 rfl _ (by omega) x3 _ k 0 s0.f0 _ (Nat.zero_add _) (by omega) (Int.le_refl _) x1 x4 q1 (by omega) (fun t t0 t1 => ?_)
    rw [if_neg (by omega)]
  by_cases c : s0.f0 ≤ pickP a3 (endP a0) ∧ pickP a3 (endP a0) < s0.f1
  · rw [if_pos c] at w1
    rw [if_pos c.1, decide_eq_true c.2]
    simp only [airchecklaw15_TimelinePut.j1, airchecklaw15_TimelinePut.j2]
    rw [if_true, if_pos n0, r0, if_true, if_true, ← Option.some.inj w1]
    simp only [bne_self_eq_false]
    exact j3 _ (by omega)
  · rw [if_neg c, v1] at w1
    have e3 : airchecklaw15_TimelinePut.j1 999 (madeP a0 l1) [s0, s1] (tl_putP (madeP a0 l1) s0.f0 s0.f1 s0.f2) 0 m 0 o false = some true := by
      simp only [airchecklaw15_TimelinePut.j1, airchecklaw15_TimelinePut.j2]
      rw [if_neg (by simp), if_true, if_true, ← Option.some.inj w1]
      simp only [bne_self_eq_false]
      exact j3 _ (by omega)
    by_cases d : s0.f0 ≤ pickP a3 (endP a0)
    · rw [if_pos d, decide_eq_false (fun h => c ⟨d, h⟩)]
      exact e3
    · rw [if_neg d]
      exact e3

end Go.Proofs.Ytbhngbjopfjacaa.Pure
