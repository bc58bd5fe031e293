/- The plain law TimelineMatchesReference over the printed functions; no condition but the numbers' kinds and the lists' lengths. -/
import Derived.Test.YtbhngbjopfjacaaPM15x23
import Derived.Test.YtbhngbjopfjacaaTL
namespace Go.Proofs.Ytbhngbjopfjacaa.Pure
open Go.RowKit Go.Proofs.Ytbhngbjopfjacaa.PM15 Go.Proofs.YtbhngbjopfjacaaW.PrintWords Go.Proofs.YtbhngbjopfjacaaW.PrintLast

theorem sane_f : airchecklaw15_sane.f 200001 = some true := by
  unfold airchecklaw15_sane.f tm_if
  exact if_pos ⟨by kernel_rfl, by kernel_rfl, by kernel_rfl, by kernel_rfl, by kernel_rfl, by kernel_rfl, by kernel_rfl, by kernel_rfl, by kernel_rfl, by kernel_rfl, by kernel_rfl, by kernel_rfl, by kernel_rfl, by kernel_rfl, by kernel_rfl, by kernel_rfl, by kernel_rfl, by kernel_rfl, by kernel_rfl, by kernel_rfl, by kernel_rfl⟩
def ratP : List S25 → Int → Int × Int
  | [], _ => (0, 150)
  | s :: l, t => if s.f0 ≤ t ∧ t < s.f1 then (s.f2, 0) else ratP l t
theorem rat_l0 (l : List S25) (t : Int) (hn : l.length ≤ 1000000) (d : Nat) : ∀ (k i : Nat), i + d = l.length → d < k → aircheckref15_At.l0 k l t (i : Int) = some (ratP (l.drop i) t) := by
  induction d with
  | zero =>
    intro k i hi hk
    obtain ⟨k, rfl⟩ : ∃ m, k = m + 1 := ⟨k - 1, by omega⟩
    simp only [aircheckref15_At.l0]
    rw [if_neg (by omega), List.drop_eq_nil_of_le (by omega)]
    rfl
  | succ d ih =>
    intro k i hi hk
    obtain ⟨k, rfl⟩ : ∃ m, k = m + 1 := ⟨k - 1, by omega⟩
    have hlt : i < l.length := by omega
    simp only [aircheckref15_At.l0]
    rw [if_pos (by omega), if_pos (by omega), rd25 hlt, tl_wrap_up hlt (by omega), List.drop_eq_getElem_cons hlt]
    have ih' := ih k (i + 1) (by omega) (by omega)
    simp only [ratP]
    by_cases c1 : (l[i]).f0 ≤ t
    · by_cases c2 : t < (l[i]).f1
      · rw [if_pos c1, if_pos c2, if_pos ⟨c1, c2⟩]
      · rw [if_pos c1, if_neg c2, if_neg (fun h => c2 h.2), ih']
    · rw [if_neg c1, if_neg (fun h => c1 h.1), ih']
theorem atP_rat {t : Int} (ht : I64 t) : ∀ l : List S25, (∀ s ∈ l, s.f1 ≤ 10000000) → tl_atP l t = ratP l t
  | [], _ => by simp [tl_atP, tl_clip, ratP]
  | s :: l, h => by
    have ih := atP_rat ht l (fun x hx => h x (List.mem_cons_of_mem _ hx))
    have h1 := h s (by simp)
    unfold I64 at ht
    unfold tl_atP at ih ⊢
    rw [clip_cons]
    simp only [ratP]
    by_cases c : s.f0 ≤ t ∧ t < s.f1
    · rw [if_pos c, wrap_id (by omega) (by omega), if_pos (by simp only [tl_clip1]; split <;> split <;> omega)]
      rfl
    · rw [if_neg c, if_neg, ← ih]
      · rfl
      · by_cases e : t = 9223372036854775807
        · have e2 : wrap64 (t + 1) = -9223372036854775808 := by rw [e]; decide +kernel
          rw [e2]
          simp only [tl_clip1]
          split <;> split <;> omega
        · rw [wrap_id (by omega) (by omega)]
          simp only [tl_clip1]
          split <;> split <;> omega
theorem at_two {l : List S25} {t : Int} (ht : I64 t) (hn : l.length ≤ 1000) {k : Nat} (hk : 1000 < k) : ∃ o e, timeline_At.f l t = some (o, e) ∧ aircheckref15_At.f k l t = some (o, e) := by
  unfold timeline_At.f aircheckref15_At.f
  rw [rvalid_f l (by omega) (by omega), Option.bind_some]
  by_cases h : tl_validB l = true
  · obtain ⟨⟨e, he⟩, -⟩ := (validB_iff l).1 h
    have h0 := rat_l0 l t (by omega) l.length k 0 (by omega) (by omega)
    simp only [List.drop_zero] at h0
    rw [if_pos h, if_pos h, atP_rat ht l (fun s hs => (he.good s hs).2.2)]
    exact ⟨(ratP l t).1, (ratP l t).2, rfl, h0⟩
  · rw [if_neg h, if_neg h]
    exact ⟨0, 150, rfl, rfl⟩
theorem done_len (xs : List S25) : ∃ c e, tl_doneF xs = (c, e) ∧ c.length ≤ 200 := by
  unfold tl_doneF
  split
  · exact ⟨[], 150, rfl, by simp⟩
  · exact ⟨xs, 0, rfl, by omega⟩
theorem two_of {k : Nat} {p q : Option (List S25 × Int)} (hpq : q = p) (hp : ∃ c e, p = some (c, e) ∧ c.length ≤ 300) (hk : 1000 < k) : tm_two k p q := by
  obtain ⟨c, e, rfl, hc⟩ := hp
  exact ⟨c, e, rfl, hpq, same_refl c (by omega) (by omega)⟩
theorem rjoin_f (l m : List S25) (t : Int) (hl : l.length ≤ 1000) (hm : m.length ≤ 1000) {k : Nat} (hk : 3000 < k) : aircheckref15_Join.f k l m t = timeline_Join.f l m t := by
  have bad : aircheckref15_Join.j0 k l m t true = some ([], 150) := by
    obtain ⟨k, rfl⟩ : ∃ n, k = n + 1 := ⟨k - 1, by omega⟩
    simp only [aircheckref15_Join.j0]
    rfl
  have good : aircheckref15_Join.j0 k l m t false = some (tl_doneF (tl_joinP l m t)) := by
    obtain ⟨k, rfl⟩ : ∃ n, k = n + 1 := ⟨k - 1, by omega⟩
    simp only [aircheckref15_Join.j0]
    have e1 := tl_addAll_clip_len l [] 0 t
    simp at e1
    rw [if_neg (by simp), rpart_f _ _ _ _ (by omega) (by simp; omega), Option.bind_some, rend_f _ (by omega), Option.bind_some, rpart_f _ _ _ _ (by omega) (by omega), Option.bind_some]
    unfold tl_doneF tl_joinP
    split <;> split <;> first | rfl | omega
  unfold aircheckref15_Join.f timeline_Join.f
  rw [rvalid_f l (by omega) (by omega), Option.bind_some, rvalid_f m (by omega) (by omega), rend_f l (by omega), rend_f m (by omega)]
  simp only [bad, Option.bind_some]
  by_cases h : tl_validB l = true
  · rw [if_pos h]
    by_cases h' : tl_validB m = true
    · rw [if_pos h']
      by_cases h1 : t < 0
      · rw [if_pos h1, if_neg (by simp [tl_joinB]; omega)]
      · rw [if_neg h1]
        by_cases h2 : t > tl_tend l
        · rw [if_pos h2, if_neg (by simp [tl_joinB]; omega)]
        · rw [if_neg h2]
          by_cases h3 : t > tl_tend m
          · rw [decide_eq_true h3, bad, if_neg (by simp [tl_joinB]; omega)]
          · rw [decide_eq_false h3, good, if_pos (by simp [h, h', tl_joinB]; omega)]
    · rw [if_neg h', if_neg (by simp [tl_joinB, h'])]
  · rw [if_neg h, if_neg (by simp [tl_joinB, h])]
theorem join_two (l m : List S25) (t : Int) (hl : l.length ≤ 1000) (hm : m.length ≤ 1000) {k : Nat} (hk : 3000 < k) : tm_two k (timeline_Join.f l m t) (aircheckref15_Join.f k l m t) := by
  refine two_of (rjoin_f l m t hl hm hk) ?_ (by omega)
  unfold timeline_Join.f
  split
  · obtain ⟨c, e, h, hc⟩ := done_len (tl_joinP l m t)
    exact ⟨c, e, by rw [h], by omega⟩
  · exact ⟨[], 150, rfl, by simp⟩
theorem put_len (l : List S25) (a b c : Int) : ∃ x e, timeline_Put.f l a b c = some (x, e) ∧ x.length ≤ 200 ∧ (e ≠ 0 → x = []) := by
  unfold timeline_Put.f
  split
  · unfold tl_doneF
    split
    · exact ⟨[], 150, rfl, by simp, fun _ => rfl⟩
    · exact ⟨_, 0, rfl, by omega, fun h => absurd rfl h⟩
  · exact ⟨[], 150, rfl, by simp, fun _ => rfl⟩
theorem put_two (l : List S25) (a b c : Int) (hl : l.length ≤ 1000) {k : Nat} (hk : 3000 < k) : tm_two k (timeline_Put.f l a b c) (aircheckref15_Put.f k l a b c) := by
  refine two_of (rput_f l a b c (by omega) (by omega)) ?_ (by omega)
  obtain ⟨x, e, h, hx, -⟩ := put_len l a b c
  exact ⟨x, e, h, by omega⟩
theorem within_two (l : List S25) (a b : Int) (hl : l.length ≤ 1000) {k : Nat} (hk : 3000 < k) : tm_two k (timeline_Within.f l a b) (aircheckref15_Within.f k l a b) := by
  have e1 := tl_addAll_clip_len l [] a b
  simp at e1
  refine two_of ?_ ?_ (by omega)
  · unfold aircheckref15_Within.f timeline_Within.f
    rw [rvalid_f l (by omega) (by omega), Option.bind_some, rend_f l (by omega), rpart_f _ _ _ _ (by omega) (by simp; omega)]
    simp only [Option.bind_some]
    by_cases h : tl_validB l = true
    · have hv := ((validB_iff l).1 h).2
      rw [if_pos h]
      by_cases h1 : a < 0
      · rw [if_pos h1, if_neg (by simp [tl_insideB]; omega)]
      · rw [if_neg h1]
        by_cases h2 : a ≥ b
        · rw [if_pos h2, if_neg (by simp [tl_insideB]; omega)]
        · rw [if_neg h2]
          by_cases h3 : b > tl_tend l
          · rw [if_pos h3, if_neg (by simp [tl_insideB]; omega)]
          · rw [if_neg h3, if_pos (by simp [h, tl_insideB]; omega)]
            unfold tl_doneF
            rw [if_neg (by omega)]
    · rw [if_neg h, if_neg (by simp [h])]
  · unfold timeline_Within.f
    split
    · obtain ⟨c, e, h, hc⟩ := done_len (tl_addAll [] (tl_clip l a b))
      exact ⟨c, e, by rw [h], by omega⟩
    · exact ⟨[], 150, rfl, by simp⟩
theorem sp_of {k : Nat} {p q : Option (List S45 × Int)} {c : List S45} {e : Int} (hp : p = some (c, e)) (hq : q = some (c, e)) (hc : c.length ≤ 50000) (hk : 60000 < k) : tm_sp k p q :=
  ⟨c, e, hp, hq, samesp_refl c (by omega) (by omega)⟩
theorem rowned_l0 (l : List S25) (o : Int) (hl : l.length ≤ 1000000) (d : Nat) : ∀ (k i : Nat) (out : List S45), i + d = l.length → d < k → out.length ≤ i →
    aircheckref15_Owned.l0 k l o out (i : Int) = some (out ++ ownedP (l.drop i) o, 0) := by
  induction d with
  | zero =>
    intro k i out hi hk ho
    obtain ⟨k, rfl⟩ : ∃ m, k = m + 1 := ⟨k - 1, by omega⟩
    simp only [aircheckref15_Owned.l0]
    rw [if_neg (by omega), List.drop_eq_nil_of_le (by omega)]
    simp [ownedP]
  | succ d ih =>
    intro k i out hi hk ho
    obtain ⟨k, rfl⟩ : ∃ m, k = m + 1 := ⟨k - 1, by omega⟩
    have hlt : i < l.length := by omega
    simp only [aircheckref15_Owned.l0]
    rw [if_pos (by omega), if_pos (by omega), rd25 hlt, tl_wrap_up hlt (by omega), List.drop_eq_getElem_cons hlt, ownedP_cons]
    by_cases c : (l[i]).f2 = o
    · rw [if_pos c, if_pos c, if_pos (by omega), ih k (i + 1) _ (by omega) (by omega) (by simp; omega), List.append_assoc]
      rfl
    · rw [if_neg c, if_neg c, ih k (i + 1) _ (by omega) (by omega) (by omega)]
theorem owned_two (l : List S25) (o : Int) (hl : l.length ≤ 1000) {k : Nat} (hk : 60000 < k) : tm_sp k (timeline_Owned.f k l o) (aircheckref15_Owned.f k l o) := by
  have h1 := owned_l0 l o (by omega) l.length k 0 [] (by omega) (by omega) (by simp)
  have h2 := rowned_l0 l o (by omega) l.length k 0 [] (by omega) (by omega) (by simp)
  have h3 := ownedP_len l o
  simp only [List.drop_zero, List.nil_append] at h1 h2
  unfold timeline_Owned.f aircheckref15_Owned.f
  rw [tl_valid_f l (by omega) (by omega), rvalid_f l (by omega) (by omega), Option.bind_some, Option.bind_some]
  by_cases h : tl_validB l = true
  · rw [if_pos h, if_pos h]
    exact sp_of h1 h2 (by omega) hk
  · rw [if_neg h, if_neg h]
    exact sp_of rfl rfl (by simp) hk
theorem rstep (o lo hi : Int) (x : S25) (l : List S25) (out : List S45) : (tl_clip (x :: l) lo hi).foldl (tl_step1 o) out = (tl_clip l lo hi).foldl (tl_step1 o) (if (tl_clip1 x lo hi).f0 < (tl_clip1 x lo hi).f1 then tl_step1 o out (tl_clip1 x lo hi) else out) := by
  rw [clip_cons]
  split <;> rfl
theorem rdiff_l1 {l m : List S25} (hm : m.length ≤ 200) {i : Nat} (hi : i < l.length) (hl : l.length ≤ 200) (d : Nat) : ∀ (k j : Nat) (out : List S45), j + d = m.length → 2 * d + 1 ≤ k → out.length ≤ 200 * i + j →
    aircheckref15_Diff.l1 k l m out (i : Int) (j : Int) = aircheckref15_Diff.l0 (k - (2 * d + 1)) l m ((tl_clip (m.drop j) (l[i]).f0 (l[i]).f1).foldl (tl_step1 (l[i]).f2) out) ((i + 1 : Nat) : Int) := by
  induction d with
  | zero =>
    intro k j out hj hk ho
    obtain ⟨k, rfl⟩ : ∃ n, k = n + 1 := ⟨k - 1, by omega⟩
    simp only [aircheckref15_Diff.l1]
    rw [if_neg (by omega), List.drop_eq_nil_of_le (by omega), tl_wrap_up hi (by omega)]
    rfl
  | succ d ih =>
    intro k j out hj hk ho
    obtain ⟨k, rfl⟩ : ∃ n, k = n + 2 := ⟨k - 2, by omega⟩
    have hlt : j < m.length := by omega
    have ek : k + 2 - (2 * (d + 1) + 1) = k - (2 * d + 1) := by omega
    rw [List.drop_eq_getElem_cons hlt, rstep, ek]
    simp only [aircheckref15_Diff.l1]
    rw [if_pos (by omega), if_pos (by omega), if_pos (by omega), if_pos (by omega), rd25 hi, rd25 hlt]
    generalize hx : l[i] = x at ih ⊢
    generalize hy : m[j] = y
    have e0 : mx x.f0 y.f0 = (tl_clip1 y x.f0 x.f1).f0 := by simp only [mx, tl_clip1]; split <;> split <;> omega
    have e1 : mn x.f1 y.f1 = (tl_clip1 y x.f0 x.f1).f1 := by simp only [mn, tl_clip1]; split <;> split <;> omega
    have e2 : (tl_clip1 y x.f0 x.f1).f2 = y.f2 := rfl
    rw [e0, e1]
    generalize tl_clip1 y x.f0 x.f1 = z at e2 ⊢
    have skip : ∀ (p q : Int), aircheckref15_Diff.j3 (k + 1) l m out (i : Int) (j : Int) true p q = aircheckref15_Diff.l0 (k - (2 * d + 1)) l m ((tl_clip (m.drop (j + 1)) x.f0 x.f1).foldl (tl_step1 x.f2) out) ((i + 1 : Nat) : Int) := fun p q => by
      simp only [aircheckref15_Diff.j3]
      rw [if_pos trivial, tl_wrap_up hlt (by omega), ih k (j + 1) out (by omega) (by omega) (by omega)]
    by_cases c1 : z.f0 ≥ z.f1
    · rw [if_pos c1, skip, if_neg (by omega)]
    · rw [if_neg c1, if_pos (by omega)]
      unfold tl_step1
      rw [e2]
      by_cases c2 : x.f2 = y.f2
      · rw [show (x.f2 == y.f2) = true from beq_iff_eq.2 c2, skip, if_pos c2.symm]
        rfl
      · rw [show (x.f2 == y.f2) = false from by simpa using c2, if_neg (fun h => c2 h.symm)]
        simp only [aircheckref15_Diff.j3]
        rw [if_neg (by simp), tl_wrap_up hlt (by omega)]
        rcases List.eq_nil_or_concat out with rfl | ⟨ys, u, rfl⟩
        · rw [if_neg (by simp), if_pos (by simp), ih k (j + 1) _ (by omega) (by omega) (by simp; omega)]
          rfl
        · have en : (ys ++ [u]).length = ys.length + 1 := by simp
          rw [List.concat_eq_append] at ho ⊢
          rw [en] at ho
          have hw : wrap64 (((ys ++ [u]).length : Int) - 1) = (ys.length : Int) := by rw [en]; exact (wrap_id (by omega) (by omega)).trans (by omega)
          have hr : rd_T45 (ys ++ [u]) (ys.length : Int) = u := by simp [rd_T45]
          have hT : tl_addT (ys ++ [u]) ⟨z.f0, z.f1⟩ = if u.f1 = z.f0 then ys ++ [⟨u.f0, z.f1⟩] else (ys ++ [u]) ++ [⟨z.f0, z.f1⟩] := by simp [tl_addT]
          rw [hw, hr, hT, if_pos (by omega), if_pos (by omega), if_pos (by omega)]
          by_cases c3 : u.f1 = z.f0
          · rw [if_pos c3, if_pos c3, show (ys ++ [u]).set ((ys.length : Int)).toNat (⟨u.f0, z.f1⟩ : S45) = ys ++ [⟨u.f0, z.f1⟩] from by simp, ih k (j + 1) _ (by omega) (by omega) (by simp; omega)]
            rfl
          · rw [if_neg c3, if_neg c3, if_pos (by omega), ih k (j + 1) _ (by omega) (by omega) (by simp; omega)]
            rfl
theorem rdiff_l0 {l m : List S25} (hm : m.length ≤ 200) (hl : l.length ≤ 200) (d : Nat) : ∀ (k i : Nat) (out : List S45), i + d = l.length → 500 * d + 1 ≤ k → out.length ≤ 200 * i →
    aircheckref15_Diff.l0 k l m out (i : Int) = some ((l.drop i).foldl (tl_stepP m) out, 0) := by
  induction d with
  | zero =>
    intro k i out hi hk ho
    obtain ⟨k, rfl⟩ : ∃ n, k = n + 1 := ⟨k - 1, by omega⟩
    simp only [aircheckref15_Diff.l0]
    rw [if_neg (by omega), List.drop_eq_nil_of_le (by omega)]
    rfl
  | succ d ih =>
    intro k i out hi hk ho
    obtain ⟨k, rfl⟩ : ∃ n, k = n + 1 := ⟨k - 1, by omega⟩
    have hlt : i < l.length := by omega
    have h1 := rdiff_l1 hm hlt hl m.length k 0 out (by omega) (by omega) (by omega)
    have h2 := step_len (l[i]).f2 (tl_clip m (l[i]).f0 (l[i]).f1) out
    have h3 := tl_clip_len m (l[i]).f0 (l[i]).f1
    simp only [List.drop_zero] at h1
    simp only [aircheckref15_Diff.l0]
    rw [if_pos (by omega), List.drop_eq_getElem_cons hlt]
    rw [show ((0 : Nat) : Int) = 0 from rfl] at h1
    rw [h1, ih _ (i + 1) _ (by omega) (by omega) (by omega)]
    rfl
theorem diff_two (l m : List S25) (hl : l.length ≤ 1000) (hm : m.length ≤ 1000) {k : Nat} (hk : 200000 < k) : tm_sp k (timeline_Diff.f l m) (aircheckref15_Diff.f k l m) := by
  have bad : aircheckref15_Diff.j0 k l m true = some ([], 150) := by
    obtain ⟨k, rfl⟩ : ∃ n, k = n + 1 := ⟨k - 1, by omega⟩
    simp only [aircheckref15_Diff.j0]
    rfl
  unfold timeline_Diff.f aircheckref15_Diff.f
  rw [rvalid_f l (by omega) (by omega), Option.bind_some, rvalid_f m (by omega) (by omega), rend_f l (by omega), rend_f m (by omega)]
  simp only [bad, Option.bind_some]
  by_cases h : tl_validB l = true
  · rw [if_pos h]
    by_cases h' : tl_validB m = true
    · rw [if_pos h']
      by_cases h3 : tl_tend l = tl_tend m
      · have g1 := ((validB_iff l).1 h).2
        have g2 := ((validB_iff m).1 h').2
        have h5 := diff_len m 200 g2 l []
        have good : aircheckref15_Diff.j0 k l m false = some (tl_diffP l m, 0) := by
          obtain ⟨k, rfl⟩ : ∃ n, k = n + 1 := ⟨k - 1, by omega⟩
          simp only [aircheckref15_Diff.j0]
          rw [if_neg (by simp)]
          exact rdiff_l0 g2 g1 l.length k 0 [] (by omega) (by omega) (by simp)
        refine sp_of (c := tl_diffP l m) (e := 0) ?_ ?_ ?_ (by omega)
        · rw [if_pos (by simp [tl_diffB, h, h', h3])]
        · rw [show (tl_tend l != tl_tend m) = false from by simp [h3]]
          exact good
        · unfold tl_diffP
          simp at h5
          omega
      · refine sp_of (c := []) (e := 150) ?_ ?_ (by simp) (by omega)
        · rw [if_neg (by simp [tl_diffB, h3])]
        · rw [show (tl_tend l != tl_tend m) = true from by simp [h3]]
          exact bad
    · refine sp_of (c := []) (e := 150) ?_ ?_ (by simp) (by omega)
      · rw [if_neg (by simp [tl_diffB, h'])]
      · rw [if_neg h']
  · refine sp_of (c := []) (e := 150) ?_ ?_ (by simp) (by omega)
    · rw [if_neg (by simp [tl_diffB, h])]
    · rw [if_neg h]
def newP (e o : Int) : List S25 × Int := if e < 0 ∨ e > 10000000 ∨ o < 0 ∨ o > 2999 then ([], 150) else if e = 0 then ([], 0) else ([⟨0, e, o⟩], 0)
theorem tnew_f (e o : Int) {k : Nat} (hk : 0 < k) : timeline_New.f k e o = some (newP e o) := by
  obtain ⟨k, rfl⟩ : ∃ n, k = n + 1 := ⟨k - 1, by omega⟩
  unfold timeline_New.f newP
  simp only [timeline_New.j0, tl_owner_f, Option.bind_some, if_true]
  by_cases c1 : e < 0
  · rw [if_pos c1, if_pos (by omega)]
  · rw [if_neg c1]
    by_cases c2 : e > 10000000
    · rw [if_pos c2, if_pos (by omega)]
    · rw [if_neg c2]
      by_cases c3 : 0 ≤ o ∧ o ≤ 2999
      · rw [show (!tl_ownerB o) = false from by simp [tl_ownerB, c3.1, c3.2], if_neg (by simp), if_neg (c := e < 0 ∨ _) (by omega)]
        split <;> rfl
      · rw [show (!tl_ownerB o) = true from by simp [tl_ownerB]; omega, if_pos rfl, if_pos (by omega)]
theorem rnew_all (e o : Int) : aircheckref15_New.f e o = some (newP e o) := by
  unfold aircheckref15_New.f newP
  rw [radd_f _ _ _ _ (by simp)]
  simp only [Option.bind_some]
  by_cases c1 : e < 0
  · rw [if_pos c1, if_pos (by omega)]
  · rw [if_neg c1]
    by_cases c2 : e > 10000000
    · rw [if_pos c2, if_pos (by omega)]
    · rw [if_neg c2]
      by_cases c3 : o < 0
      · rw [if_pos c3, if_pos (by omega)]
      · rw [if_neg c3]
        by_cases c4 : o > 2999
        · rw [if_pos c4, if_pos (by omega)]
        · rw [if_neg c4, if_neg (c := e < 0 ∨ _) (by omega)]
          unfold raddP
          by_cases c5 : e = 0
          · rw [if_neg (show ¬ (⟨0, e, o⟩ : S25).f0 < (⟨0, e, o⟩ : S25).f1 from by show ¬ 0 < e; omega), if_pos c5]
          · rw [if_pos (show (⟨0, e, o⟩ : S25).f0 < (⟨0, e, o⟩ : S25).f1 from by show 0 < e; omega), if_neg c5]
            rfl
theorem newP_len (e o : Int) : ∃ c x, newP e o = (c, x) ∧ c.length ≤ 200 ∧ (x ≠ 0 → c = []) := by
  unfold newP
  split
  · exact ⟨[], 150, rfl, by simp, fun _ => rfl⟩
  · split
    · exact ⟨[], 0, rfl, by simp, fun h => absurd rfl h⟩
    · exact ⟨_, 0, rfl, by simp, fun h => absurd rfl h⟩
theorem new_two (e o : Int) {k : Nat} (hk : 3000 < k) : tm_two k (timeline_New.f k e o) (aircheckref15_New.f e o) := by
  obtain ⟨c, x, h, hc, -⟩ := newP_len e o
  exact two_of (by rw [rnew_all, tnew_f e o (by omega)]) ⟨c, x, by rw [tnew_f e o (by omega), h], by omega⟩ (by omega)
theorem paint_both (s : List S25) (hs : s.length ≤ 90) (d : Nat) : ∀ (k k' i : Nat) (l : List S25) (e : Int), i + d = s.length → d + 250 < k → d + 250 < k' → l.length ≤ 200 → (e ≠ 0 → l = []) →
    ∃ c x, timeline_Paint.l0 k l e s (s.length : Int) (i : Int) = some (c, x) ∧ aircheckref15_Paint.l0 k' s l e (i : Int) = some (c, x) ∧ c.length ≤ 200 := by
  induction d with
  | zero =>
    intro k k' i l e hi hk hk' hl he
    obtain ⟨k, rfl⟩ : ∃ m, k = m + 1 := ⟨k - 1, by omega⟩
    obtain ⟨k', rfl⟩ : ∃ m, k' = m + 1 := ⟨k' - 1, by omega⟩
    simp only [timeline_Paint.l0, aircheckref15_Paint.l0]
    rw [if_neg (by omega), if_neg (by omega)]
    exact ⟨l, e, rfl, rfl, hl⟩
  | succ d ih =>
    intro k k' i l e hi hk hk' hl he
    obtain ⟨k, rfl⟩ : ∃ m, k = m + 1 := ⟨k - 1, by omega⟩
    obtain ⟨k', rfl⟩ : ∃ m, k' = m + 1 := ⟨k' - 1, by omega⟩
    have hlt : i < s.length := by omega
    simp only [timeline_Paint.l0, aircheckref15_Paint.l0]
    by_cases c : e = 0
    · rw [if_pos (by omega), if_pos (by omega), if_pos (by omega), if_pos c, if_pos (by omega), if_pos c, if_pos (by omega), rd25 hlt, rput_f _ _ _ _ (by omega) (by omega), tl_wrap_up hlt (by omega)]
      obtain ⟨x, y, h, h1, h2⟩ := put_len l (s[i]).f0 (s[i]).f1 (s[i]).f2
      rw [h, Option.bind_some, Option.bind_some]
      exact ih k k' (i + 1) x y (by omega) (by omega) (by omega) h1 h2
    · rw [if_pos (by omega), if_pos (by omega), if_pos (by omega), if_neg c, if_pos (by omega), if_neg c, he c]
      exact ⟨[], e, rfl, rfl, by simp⟩
theorem paint_two (e o : Int) (s : List S25) (hs : s.length ≤ 90) {k : Nat} (hk : 3000 < k) : tm_two k (timeline_Paint.f k e o s) (aircheckref15_Paint.f k e o s) := by
  obtain ⟨c, x, h, hc, hx⟩ := newP_len e o
  obtain ⟨c', x', h1, h2, h3⟩ := paint_both s hs s.length k k 0 c x (by omega) (by omega) (by omega) hc hx
  unfold timeline_Paint.f aircheckref15_Paint.f
  rw [tnew_f e o (by omega), rnew_all, h, Option.bind_some, Option.bind_some]
  exact ⟨c', x', h1, h2, same_refl c' (by omega) (by omega)⟩
theorem bent_f {l : List S25} (hl : l.length ≤ 100) {how n at_ : Int} (h1 : I64 how) (h3 : I64 at_) : ∃ r, aircheckref15_Bent.f l how n at_ = some r ∧ r.length ≤ 101 := by
  unfold aircheckref15_Bent.f
  rw [if_pos (by omega)]
  by_cases c : l.length = 0
  · rw [if_pos c]
    exact ⟨_, rfl, by simp⟩
  · have hp := pickP_in (a := at_) (n := (l.length : Int)) (by omega)
    rw [if_neg c, rpick_f h3 (by omega), Option.bind_some, rpick_f h1 (by omega), Option.bind_some, rend_f l (by omega), Option.bind_some, rpick_f h3 (by omega), Option.bind_some, if_pos hp]
    split
    · exact ⟨_, rfl, by simp; omega⟩
    · split
      · exact ⟨_, rfl, by simp; omega⟩
      · split
        · exact ⟨_, rfl, by simp; omega⟩
        · split
          · exact ⟨_, rfl, by simp; omega⟩
          · exact ⟨_, rfl, by simp; omega⟩
theorem list_ok {K : Nat} (hK : 200000 < K) (l b : List S25) (hl : l.length ≤ 200) (hb : b.length ≤ 200) (ts : List Int) (ht : ∀ t ∈ ts, I64 t) (ss : List S25) (ks : List (List S25)) (hk : ∀ x ∈ ks, x.length ≤ 200) : tm_list K l b ts ss ks := by
  refine ⟨⟨tl_validB l, tl_valid_f l (by omega) (by omega), rvalid_f l (by omega) (by omega)⟩, ?_, fun t h => ?_, fun s _ => ?_, fun x h => ?_⟩
  · unfold timeline_End.f aircheckref15_End.f
    rw [tl_valid_f l (by omega) (by omega), rvalid_f l (by omega) (by omega), tl_end_f l (by omega), rend_f l (by omega)]
    simp only [Option.bind_some]
    split
    · exact ⟨_, rfl, rfl⟩
    · exact ⟨_, rfl, rfl⟩
  · exact ⟨at_two (ht t h) (by omega) (by omega), join_two l b t (by omega) (by omega) (by omega), join_two b l t (by omega) (by omega) (by omega)⟩
  · exact ⟨put_two l _ _ _ (by omega) (by omega), within_two l _ _ (by omega) (by omega), owned_two l _ (by omega) (by omega)⟩
  · have := hk x h
    exact diff_two l x (by omega) (by omega) hK
theorem few_f (l : List S25) : ∃ r, airchecklaw15_few.f l = some r ∧ r.length ≤ 8 := by
  unfold airchecklaw15_few.f
  have : 0 ≤ mn (l.length : Int) 8 ∧ mn (l.length : Int) 8 ≤ (l.length : Int) ∧ mn (l.length : Int) 8 ≤ 8 := by simp only [mn]; split <;> omega
  rw [if_pos this.1, if_pos this.2.1]
  exact ⟨_, rfl, by rw [List.length_take]; omega⟩
theorem TimelineMatchesReference : airchecklaw15_TimelineMatchesReference.Pure := by
  intro a0 l1 a2 l3 l4 a5 a6 a7 b0 b1 b2 a9 h0 h1 h2 h3 h4 h5 h6 h7 h8 h9
  refine ⟨200001, ?_⟩
  unfold airchecklaw15_TimelineMatchesReference.f tm_if
  rw [if_pos]
  have g1 : l1.length ≤ 9223372036854775806 := by have := h1.2.1; omega
  have g3 : l3.length ≤ 9223372036854775806 := by have := h3.2.1; omega
  have p := pickP_in (a := a0) (n := 400) (by omega)
  have q := pickP_in (a := a9) (n := 1 + pickP a0 400) (by omega)
  obtain ⟨-, A2, -⟩ := made_tl a0 l1
  obtain ⟨-, B2, -⟩ := made_tl a2 l3
  obtain ⟨fw, F1, F2⟩ := few_f l4
  obtain ⟨bent, N1, N2⟩ := bent_f (l := madeP a0 l1) (how := a5) (n := a6) (at_ := a7) (by omega) (I64.of h5) (I64.of h7)
  have sp := spans_f (e := 1 + pickP a0 400) (by omega) (by omega) [⟨b0, b1, b2⟩] (by simp) (fun x hx => by
    rw [List.mem_singleton] at hx
    subst hx
    exact h8) (k := 200001) (by omega)
  have tt : ∀ t ∈ [a9, pickP a9 (1 + pickP a0 400)], I64 t := fun t ht => by
    simp only [List.mem_cons, List.not_mem_nil, or_false] at ht
    rcases ht with rfl | rfl
    · exact I64.of h9
    · unfold I64; omega
  have kk : ∀ x ∈ [madeP a0 l1, madeP a2 l3, fw], x.length ≤ 200 := fun x hx => by
    simp only [List.mem_cons, List.not_mem_nil, or_false] at hx
    rcases hx with rfl | rfl | rfl <;> omega
  exact ⟨sane_f, madeP a0 l1, madeP a2 l3, fw, pickP a0 400, pickP a9 (1 + pickP a0 400), span1 (1 + pickP a0 400) ⟨b0, b1, b2⟩, [], bent, pickP b2 9, made_f (I64.of h0) l1 g1 h1.2.2 (by omega), made_f (I64.of h2) l3 g3 h3.2.2 (by omega), F1, pick_f (I64.of h0) (by omega), p, pick_f (I64.of h9) (by omega), sp, N1, list_ok (by omega) _ _ (by omega) (by omega) _ tt _ _ kk, list_ok (by omega) _ _ (by omega) (by omega) _ tt _ _ kk, list_ok (by omega) _ _ (by omega) (by omega) _ tt _ _ kk, new_two _ _ (by omega), pick_f (I64.of h8.2.2) (by omega), paint_two _ _ _ (by omega) (by omega)⟩

end Go.Proofs.Ytbhngbjopfjacaa.Pure
