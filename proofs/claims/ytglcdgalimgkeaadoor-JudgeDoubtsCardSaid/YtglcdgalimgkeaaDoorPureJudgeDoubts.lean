/- The plain law JudgeDoubts over the printed functions; no condition but the numbers' kinds and the lists' lengths. -/
import Derived.Test.YtglcdgalimgkeaaDoorPJBx29
import Derived.Test.YtglcdgalimgkeaaDoorJT
namespace Go.Proofs.YtglcdgalimgkeaaDoor.Pure
open Go.RowKit Go.Proofs.YtglcdgalimgkeaaDoor.PJB Go.Proofs.YtglcdgalimgkeaaDoorW.PrintWords Go.Proofs.YtglcdgalimgkeaaDoorW.PrintLast

theorem sane_f {k : Nat} (hk : 1000 ≤ k) : airchecklaw38_sane.f k = some true := at_rounds airchecklaw38_sane.mono hk (by decide +kernel)
/-- c is a, but for doubts. -/
structure Dbt (a c : List S54) : Prop where
  len : c.length = a.length
  at_ : ∀ i : Nat, rd_T54 c (i : Int) = rd_T54 a (i : Int) ∨ rd_T54 c (i : Int) = ⟨3, 0⟩
  vd : ∀ x ∈ c, Vd x
theorem Dbt.set {a c : List S54} (h : Dbt a c) (j : Nat) : Dbt a (c.set j ⟨3, 0⟩) := by
  refine ⟨by rw [List.length_set]; exact h.len, fun i => ?_, fun x hx => ?_⟩
  · have e : rd_T54 (c.set j ⟨3, 0⟩) (i : Int) = if j = i ∧ i < c.length then ⟨3, 0⟩ else rd_T54 c (i : Int) := by
      unfold rd_T54
      rw [Int.toNat_natCast, List.getD_eq_getElem?_getD, List.getD_eq_getElem?_getD, List.getElem?_set]
      by_cases c1 : j = i
      · subst c1
        by_cases c2 : j < c.length
        · simp [c2]
        · simp [c2]
      · simp [c1]
    rw [e]
    split
    · exact .inr rfl
    · exact h.at_ i
  · rcases List.mem_or_eq_of_mem_set hx with hx | rfl
    · exact h.vd x hx
    · exact .inr ⟨.inr (.inl rfl), rfl⟩
theorem doubts_R {a b c d : List S54} (hc : Dbt a c) (hd : Dbt b d) (l : List S74) : ∀ n : Nat, n ≤ 1000 → (jR kn l c d n).2.1 ≤ (jR kn l a b n).2.1 ∧ (jR kn l c d n).2.2 ≤ (jR kn l a b n).2.2 ∧ ((jR kn l c d n).2.2 ≠ 0 → (jR kn l a b n).1 ≤ (jR kn l c d n).1)
  | 0, _ => ⟨Int.le_refl _, Int.le_refl _, fun _ => Int.le_refl _⟩
  | n + 1, hn => by
    obtain ⟨h1, h2, h3⟩ := doubts_R hc hd l n (by omega)
    have i1 := jR_inv kn l a b n (by omega)
    have i2 := jR_inv kn l c d n (by omega)
    have j1 := jR_inv kn l a b (n + 1) (by omega)
    rw [jR_succ, jR_succ]
    rw [jR_succ] at j1
    by_cases s : sureB c d n = true
    · have hs := of_decide_eq_true s
      have hk12 : (rd_T54 c (n : Int)).f0 = 1 ∨ (rd_T54 c (n : Int)).f0 = 2 := by have := hs.2.2; simpa [jd_s] using this
      have ec : rd_T54 c (n : Int) = rd_T54 a (n : Int) := (hc.at_ n).resolve_right (fun h => by rw [h] at hk12; simp at hk12)
      have hk34 : (rd_T54 d (n : Int)).f0 = 1 ∨ (rd_T54 d (n : Int)).f0 = 2 := by rw [← hs.1]; exact hk12
      have ed : rd_T54 d (n : Int) = rd_T54 b (n : Int) := (hd.at_ n).resolve_right (fun h => by rw [h] at hk34; simp at hk34)
      have s' : sureB a b n = true := by
        have : sureB a b n = sureB c d n := by unfold sureB; rw [ec, ed]
        rw [this]; exact s
      rw [if_pos s, if_pos s', ec]
      unfold jd_add
      generalize jR kn l a b n = r at *
      generalize jR kn l c d n = r' at *
      obtain ⟨i10, i11, i12, i13, i14, i15⟩ := i1
      obtain ⟨i20, i21, i22, i23, i24, i25⟩ := i2
      rw [wrap_id (x := r.2.1 + 1) (by omega) (by omega), wrap_id (x := r.2.2 + 1) (by omega) (by omega), wrap_id (x := r'.2.1 + 1) (by omega) (by omega), wrap_id (x := r'.2.2 + 1) (by omega) (by omega)]
      by_cases g : jd_A (oK l n) (rd_T54 a (n : Int)).f0 (rd_T54 a (n : Int)).f1 kn = true
      · rw [if_pos g, if_pos g]
        refine ⟨by show r'.2.1 + 1 ≤ r.2.1 + 1; omega, by show r'.2.2 + 1 ≤ r.2.2 + 1; omega, fun _ => ?_⟩
        show (if r.2.2 = 0 then (n : Int) else r.1) ≤ (if r'.2.2 = 0 then (n : Int) else r'.1)
        by_cases z : r'.2.2 = 0
        · rw [if_pos z]
          split <;> omega
        · rw [if_neg z, if_neg (by omega)]
          exact h3 z
      · rw [if_neg g, if_neg g]
        exact ⟨by show r'.2.1 + 1 ≤ r.2.1 + 1; omega, h2, h3⟩
    · rw [if_neg s]
      by_cases s' : sureB a b n = true
      · rw [if_pos s']
        unfold jd_add
        generalize jR kn l a b n = r at *
        generalize jR kn l c d n = r' at *
        obtain ⟨i10, i11, i12, i13, i14, i15⟩ := i1
        obtain ⟨i20, i21, i22, i23, i24, i25⟩ := i2
        rw [wrap_id (x := r.2.1 + 1) (by omega) (by omega), wrap_id (x := r.2.2 + 1) (by omega) (by omega)]
        split
        · refine ⟨by show r'.2.1 ≤ r.2.1 + 1; omega, by show r'.2.2 ≤ r.2.2 + 1; omega, fun z => ?_⟩
          show (if r.2.2 = 0 then (n : Int) else r.1) ≤ r'.1
          rw [if_neg (by omega)]
          exact h3 z
        · exact ⟨by show r'.2.1 ≤ r.2.1 + 1; omega, h2, h3⟩
      · rw [if_neg s']
        exact ⟨h1, h2, h3⟩
theorem I64_wrap (z : Int) : I64 (wrap64 z) := by unfold I64 wrap64; omega
theorem doubts_end {l : List S74} {e : Int} (h : Tl l e) (hl : l.length ≤ 200) {a b : List S54} (ev : Evi e a b) (x3 : List Int) (i : Int) {c d : List S54} (hc : Dbt a c) (hd : Dbt b d) {k : Nat} (hk : 300 ≤ k) :
    airchecklaw38_JudgeDoubts.j1 k x3 l a b c d i false = some true := by
  obtain ⟨k, rfl⟩ : ∃ m, k = m + 1 := ⟨k - 1, by omega⟩
  have ev2 : Evi e c d := ⟨by rw [hc.len, hd.len]; exact ev.ab, by rw [hc.len]; exact ev.le, by rw [hc.len]; exact ev.ae, hc.vd, hd.vd⟩
  have hle := ev.le
  simp only [airchecklaw38_JudgeDoubts.j1]
  rw [if_neg (by simp), known_f, Option.bind_some, judge_f h hl ev kn (by omega), Option.bind_some, Option.bind_some, judge_f h hl ev2 kn (by omega), Option.bind_some, jres_eq, jres_eq, hc.len]
  obtain ⟨h1, h2, h3⟩ := doubts_R hc hd l a.length (by omega)
  have i1 := jR_inv kn l a b a.length (by omega)
  have i2 := jR_inv kn l c d a.length (by omega)
  generalize jR kn l a b a.length = r at *
  generalize jR kn l c d a.length = r' at *
  obtain ⟨i10, i11, i12, i13, i14, i15⟩ := i1
  obtain ⟨i20, i21, i22, i23, i24, i25⟩ := i2
  dsimp only
  rw [if_pos rfl, if_pos rfl, if_pos h1, if_pos h2]
  by_cases z : r'.2.2 = 0
  · rw [beq_iff_eq.2 z, if_pos rfl, if_pos rfl]
    split <;> rfl
  · rw [if_neg (by simp; omega), if_neg (by simp [z]), decide_eq_true (h3 z)]
theorem doubts_l0 {l : List S74} {e : Int} (h : Tl l e) (hl : l.length ≤ 200) {a b : List S54} (ev : Evi e a b) (x3 : List Int) (hw : ∀ x ∈ x3, (Lit.int .i64 x).wf = true) (q : Nat) : ∀ (k i : Nat) (c d : List S54), i + q = 40 → 2 * q + 310 ≤ k → Dbt a c → Dbt b d →
    airchecklaw38_JudgeDoubts.l0 k x3 l a b c d (i : Int) = some true := by
  induction q with
  | zero =>
    intro k i c d hi hk hc hd
    obtain ⟨k, rfl⟩ : ∃ m, k = m + 1 := ⟨k - 1, by omega⟩
    simp only [airchecklaw38_JudgeDoubts.l0]
    split
    · rw [if_neg (by omega)]; exact doubts_end h hl ev x3 _ hc hd (by omega)
    · exact doubts_end h hl ev x3 _ hc hd (by omega)
  | succ q ih =>
    intro k i c d hi hk hc hd
    obtain ⟨k, rfl⟩ : ∃ m, k = m + 2 := ⟨k - 2, by omega⟩
    simp only [airchecklaw38_JudgeDoubts.l0]
    by_cases c1 : (i : Int) < (x3.length : Int)
    · rw [if_pos c1, if_pos (by omega)]
      by_cases c2 : (c.length : Int) > 0
      · rw [decide_eq_true c2]
        have hlt : i < x3.length := by omega
        have hx : rd x3 (i : Int) = x3[i] := by simp [rd, hlt]
        have hp := pickP_in (a := wrap64 (Int.tdiv (x3[i]) 3)) (n := (c.length : Int)) c2
        have hd1 := hd.len
        have hc1 := hc.len
        have hab := ev.ab
        simp only [airchecklaw38_JudgeDoubts.j1]
        rw [if_pos trivial, if_pos (by omega), if_pos c1, hx, pick_f (I64_wrap _) c2, Option.bind_some, pick_f (I64.of (hw _ (List.getElem_mem hlt))) (by omega), Option.bind_some, tl_wrap_up (n := 40) (by omega) (by omega)]
        split
        · rw [if_pos (by omega), if_pos (by omega)]
          exact ih k (i + 1) _ _ (by omega) (by omega) (hc.set _) hd
        · rw [if_pos (by omega), if_pos (by omega)]
          exact ih k (i + 1) _ _ (by omega) (by omega) hc (hd.set _)
      · rw [decide_eq_false c2]
        exact doubts_end h hl ev x3 _ hc hd (by omega)
    · rw [if_neg c1]
      exact doubts_end h hl ev x3 _ hc hd (by omega)
theorem JudgeDoubts : airchecklaw38_JudgeDoubts.Pure := by
  intro a0 l1 l2 l3 w0 w1 w2 w3
  have hm := made_tl a0 l1
  have he := endP_in a0
  have hn : l1.length ≤ 9223372036854775806 := by have := w1.2.1; omega
  obtain ⟨a, b, hE, ev⟩ := evi_f hm.1 (by omega) (by omega) hm.2.2 l2 w2.2.2 (k := 2000) (by omega)
  have h1 := ev.le
  have h2 := ev.ab
  refine ⟨2000, ?_⟩
  unfold airchecklaw38_JudgeDoubts.f
  rw [sane_f (by omega), Option.bind_some, if_pos rfl, made_f (I64.of w0) l1 hn w1.2.2 (by omega), Option.bind_some, hE, Option.bind_some, Option.bind_some, if_pos (by simp; omega), Option.bind_some, if_pos (by simp; omega), List.nil_append, List.nil_append]
  exact doubts_l0 hm.1 (by omega) ev l3 w3.2.2 40 2000 0 a b (by omega) (by omega) ⟨rfl, fun i => .inl rfl, ev.va⟩ ⟨rfl, fun i => .inl rfl, ev.vb⟩

end Go.Proofs.YtglcdgalimgkeaaDoor.Pure
