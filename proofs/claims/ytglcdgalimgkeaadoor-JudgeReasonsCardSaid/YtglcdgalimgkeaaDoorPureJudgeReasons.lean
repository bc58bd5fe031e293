/- The plain law JudgeReasons over the printed functions; no condition but the numbers' kinds and the lists' lengths. -/
import Derived.Test.YtglcdgalimgkeaaDoorPJBx31
import Derived.Test.YtglcdgalimgkeaaDoorJT
namespace Go.Proofs.YtglcdgalimgkeaaDoor.Pure
open Go.RowKit Go.Proofs.YtglcdgalimgkeaaDoor.PJB Go.Proofs.YtglcdgalimgkeaaDoorW.PrintWords Go.Proofs.YtglcdgalimgkeaaDoorW.PrintLast

theorem sane_f {k : Nat} (hk : 1000 ≤ k) : airchecklaw38_sane.f k = some true := at_rounds airchecklaw38_sane.mono hk (by decide +kernel)
theorem reasons_l0 {l : List S74} {e : Int} (h : Tl l e) (hl : l.length ≤ 200) (he : e ≤ 10000000) {a b : List S54} (ev : Evi e a b) (x : Bool) (d : Nat) : ∀ (k i : Nat), i + d = a.length → 2 * d + 300 ≤ k →
    airchecklaw38_JudgeReasons.l0 k l a b (jR kn l a b i).2.1 (jR kn l a b i).2.2 (jR kn l a b i).1 (i : Int) x (jR kn l a b a.length).1 (jR kn l a b a.length).2.1 (jR kn l a b a.length).2.2 = some true := by
  have h1 := ev.le
  have h2 := ev.ab
  have h3 := ev.ae
  induction d with
  | zero =>
    intro k i hi hk
    obtain ⟨k, rfl⟩ : ∃ m, k = m + 1 := ⟨k - 1, by omega⟩
    obtain rfl : i = a.length := by omega
    simp only [airchecklaw38_JudgeReasons.l0]
    rw [if_neg (by omega)]
    simp
  | succ d ih =>
    intro k i hi hk
    obtain ⟨k, rfl⟩ : ∃ m, k = m + 2 := ⟨k - 2, by omega⟩
    have hlt : i < a.length := by omega
    have hie : (i : Int) < e := by omega
    obtain ⟨o, ho, hat⟩ := at_tl h hl (t := (i : Int)) (by omega) hie he
    have hoK := oK_own h hie
    rw [ho] at hoK
    obtain rfl := Option.some.inj hoK
    have hnext := ih k (i + 1) (by omega) (by omega)
    have hinv := jR_inv kn l a b i (by omega)
    rw [jR_succ] at hnext
    simp only [airchecklaw38_JudgeReasons.l0]
    rw [if_pos (by omega), hat, Option.bind_some, if_pos rfl, if_pos (by omega), if_pos (by omega)]
    have off : sureB a b i = false → airchecklaw38_JudgeReasons.j2 (k + 1) l a b (jR kn l a b i).2.1 (jR kn l a b i).2.2 (jR kn l a b i).1 (i : Int) (oK l i) true x (jR kn l a b a.length).1 (jR kn l a b a.length).2.1 (jR kn l a b a.length).2.2 = some true := by
      intro hc
      rw [if_neg (by rw [hc]; exact Bool.false_ne_true)] at hnext
      simp only [airchecklaw38_JudgeReasons.j2]
      rw [if_pos trivial, tl_wrap_up hlt (by omega)]
      exact hnext
    by_cases c : sureB a b i = true
    · have hs := of_decide_eq_true c
      rw [if_pos c] at hnext
      have e2 : airchecklaw38_JudgeReasons.j2 (k + 1) l a b (jR kn l a b i).2.1 (jR kn l a b i).2.2 (jR kn l a b i).1 (i : Int) (oK l i) false x (jR kn l a b a.length).1 (jR kn l a b a.length).2.1 (jR kn l a b a.length).2.2 = some true := by
        simp only [airchecklaw38_JudgeReasons.j2]
        rw [if_neg (by simp), if_pos (by omega), if_pos (by omega), known_f, Option.bind_some, against_f _ _ _ (by omega), Option.bind_some]
        unfold jd_add at hnext
        rw [tl_wrap_up hlt (by omega)]
        by_cases g : jd_A (oK l i) (rd_T54 a (i : Int)).f0 (rd_T54 a (i : Int)).f1 kn = true
        · rw [if_pos g] at hnext ⊢
          by_cases z : (jR kn l a b i).2.2 = 0
          · rw [if_pos (by have := hinv.at0 z; omega)]
            rw [if_pos z] at hnext
            exact hnext
          · rw [if_neg (by have := hinv.at1 z; omega)]
            rw [if_neg z] at hnext
            exact hnext
        · rw [if_neg g] at hnext ⊢
          exact hnext
      rw [if_neg (by simp [hs.1, hs.2.1])]
      have hk12 : (rd_T54 a (i : Int)).f0 = 1 ∨ (rd_T54 a (i : Int)).f0 = 2 := by have := hs.2.2; simpa [jd_s] using this
      by_cases c1 : (rd_T54 a (i : Int)).f0 = 1
      · rw [if_pos c1]; exact e2
      · rw [if_neg c1, show ((rd_T54 a (i : Int)).f0 != 2) = false by have := hk12.resolve_left c1; simp [this]]; exact e2
    · have c' := Bool.eq_false_iff.2 c
      have hs : ¬ ((rd_T54 a (i : Int)).f0 = (rd_T54 b (i : Int)).f0 ∧ (rd_T54 a (i : Int)).f1 = (rd_T54 b (i : Int)).f1 ∧ jd_s (rd_T54 a (i : Int)).f0 = true) := of_decide_eq_false c'
      by_cases c1 : (!(((rd_T54 a (i : Int)).f0) == ((rd_T54 b (i : Int)).f0)) || (!(((rd_T54 a (i : Int)).f1) == ((rd_T54 b (i : Int)).f1)))) = true
      · rw [if_pos c1]; exact off c'
      · rw [if_neg c1]
        have h4 : (rd_T54 a (i : Int)).f0 = (rd_T54 b (i : Int)).f0 ∧ (rd_T54 a (i : Int)).f1 = (rd_T54 b (i : Int)).f1 := by simpa using c1
        have h5 : ¬ jd_s (rd_T54 a (i : Int)).f0 = true := fun hx => hs ⟨h4.1, h4.2, hx⟩
        have h6 : ¬ (rd_T54 a (i : Int)).f0 = 1 ∧ ¬ (rd_T54 a (i : Int)).f0 = 2 := by simpa [jd_s] using h5
        rw [if_neg h6.1, show ((rd_T54 a (i : Int)).f0 != 2) = true by simp [h6.2]]
        exact off c'
theorem JudgeReasons : airchecklaw38_JudgeReasons.Pure := by
  intro a0 l1 l2 w0 w1 w2
  have hm := made_tl a0 l1
  have he := endP_in a0
  have hn : l1.length ≤ 9223372036854775806 := by have := w1.2.1; omega
  obtain ⟨a, b, hE, ev⟩ := evi_f hm.1 (by omega) (by omega) hm.2.2 l2 w2.2.2 (k := 2000) (by omega)
  have h1 := ev.le
  have hinv := jR_inv kn (madeP a0 l1) a b a.length (by omega)
  have hsw : jd_res (madeP a0 l1) 0 b a kn = jR kn (madeP a0 l1) a b a.length := by rw [jres_eq, jR_swap, ev.ab]
  refine ⟨2000, ?_⟩
  unfold airchecklaw38_JudgeReasons.f
  rw [sane_f (by omega), Option.bind_some, if_pos rfl, made_f (I64.of w0) l1 hn w1.2.2 (by omega), Option.bind_some, hE, Option.bind_some, known_f, Option.bind_some,
    judge_f hm.1 (by omega) ev kn (by omega), Option.bind_some, Option.bind_some, judge_f hm.1 (by omega) ev.swap kn (by omega), Option.bind_some]
  rw [hsw, jres_eq]
  have hl0 := reasons_l0 hm.1 (by omega) (by omega) ev ((jR kn (madeP a0 l1) a b a.length).2.2 == 0) a.length 1999 0 (by omega) (by omega)
  rw [jR_zero] at hl0
  generalize jR kn (madeP a0 l1) a b a.length = R at *
  dsimp only
  rw [if_pos rfl, if_pos rfl, if_neg (by simp)]
  have e1 : ((R.2.2 == 0) != (R.1 == -1)) = false := by
    by_cases z : R.2.2 = 0
    · simp [z, hinv.at0 z]
    · have := hinv.at1 z
      rw [beq_eq_false_iff_ne.2 z, beq_eq_false_iff_ne.2 (show R.1 ≠ -1 by omega)]; rfl
  rw [e1, if_neg Bool.false_ne_true, show ((R.2.2 == 0) != (R.2.2 == 0)) = false by simp]
  simp only [airchecklaw38_JudgeReasons.j0]
  rw [if_neg Bool.false_ne_true]
  exact hl0

end Go.Proofs.YtglcdgalimgkeaaDoor.Pure
