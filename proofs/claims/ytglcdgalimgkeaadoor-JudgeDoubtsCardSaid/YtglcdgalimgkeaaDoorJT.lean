/- The plain theory of timelines; no condition. -/
import Derived.Test.YtglcdgalimgkeaaDoorTL
import Derived.OpenShut
namespace Go.Proofs.YtglcdgalimgkeaaDoor.PJB
open Go.RowKit Go.Proofs.YtglcdgalimgkeaaDoorW.PrintWords Go.Proofs.YtglcdgalimgkeaaDoorW.PrintLast Go.Proofs.YtglcdgalimgkeaaDoorW.PrintMore
theorem rd54 {l : List S54} {i : Nat} (h : i < l.length) : rd_T54 l (i : Int) = l[i] := by simp [rd_T54, h]
theorem rd101 {l : List S101} {i : Nat} (h : i < l.length) : rd_T101 l (i : Int) = l[i] := by simp [rd_T101, h]
theorem rat_l0 {l : List S74} (hn : l.length ≤ 1000000) (t : Int) (d : Nat) : ∀ (k i : Nat) (o : Int), i + d = l.length → d < k → own (l.drop i) t = some o → aircheckref15_At.l0 k l t (i : Int) = some (o, 0) := by
  induction d with
  | zero =>
    intro k i o hi hk ho
    rw [List.drop_eq_nil_of_le (by omega)] at ho
    cases ho
  | succ d ih =>
    intro k i o hi hk ho
    obtain ⟨k, rfl⟩ : ∃ m, k = m + 1 := ⟨k - 1, by omega⟩
    have hlt : i < l.length := by omega
    rw [List.drop_eq_getElem_cons hlt] at ho
    simp only [own] at ho
    simp only [aircheckref15_At.l0]
    rw [if_pos (by omega), if_pos (by omega), rd25 hlt, tl_wrap_up hlt (by omega)]
    by_cases c0 : (l[i]).f0 ≤ t
    · rw [if_pos c0]
      by_cases c1 : t < (l[i]).f1
      · rw [if_pos c1]
        rw [if_pos ⟨c0, c1⟩] at ho
        rw [Option.some.inj ho]
      · rw [if_neg c1]
        rw [if_neg (fun h => c1 h.2)] at ho
        exact ih k (i + 1) o (by omega) (by omega) ho
    · rw [if_neg c0]
      rw [if_neg (fun h => c0 h.1)] at ho
      exact ih k (i + 1) o (by omega) (by omega) ho
theorem rat_f {l : List S74} {e t : Int} (h : Tl l e) (hl : l.length ≤ 200) (h0 : 0 ≤ t) (h1 : t < e) {k : Nat} (hk : l.length < k) : ∃ o, own l t = some o ∧ aircheckref15_At.f k l t = some (o, 0) := by
  obtain ⟨o, ho⟩ := own_in h.cont h0 h1
  refine ⟨o, ho, ?_⟩
  unfold aircheckref15_At.f
  rw [rvalid_f l (by omega) hk, (validB_iff l).2 ⟨⟨e, h⟩, hl⟩, Option.bind_some, if_pos rfl]
  exact rat_l0 (by omega) t l.length k 0 o (by omega) hk (by rw [List.drop_zero]; exact ho)
theorem rEnd_tl {l : List S74} {e : Int} (h : Tl l e) (hl : l.length ≤ 200) {k : Nat} (hk : l.length < k) : aircheckref15_End.f k l = some e := by
  unfold aircheckref15_End.f
  rw [rvalid_f l (by omega) hk, (validB_iff l).2 ⟨⟨e, h⟩, hl⟩, Option.bind_some, if_pos rfl, rend_f l (by omega), Option.bind_some, tend_cont h.cont]
/-- A verdict that Evidence gives. -/
def Vd (v : S54) : Prop := (v.f0 = 1 ∧ 0 ≤ v.f1 ∧ v.f1 ≤ 5) ∨ ((v.f0 = 2 ∨ v.f0 = 3 ∨ v.f0 = 4) ∧ v.f1 = 0)
theorem jpick_f {a n : Int} (ha : I64 a) (hn : 0 < n) : aircheckref38_pick.f a n = some (pickP a n) := pick_f ha hn
theorem verd_f {o c : Int} (hc : I64 c) (h0 : 0 ≤ o) (h7 : o ≤ 7) : ∃ v : S54, aircheckref38_verdict.f o c = some (v.f0, v.f1) ∧ Vd v := by
  unfold aircheckref38_verdict.f
  rw [jpick_f hc (by omega), Option.bind_some]
  have hp := pickP_in (a := c) (n := 96) (by omega)
  by_cases c1 : pickP c 96 < 16
  · rw [if_pos c1]; exact ⟨⟨3, 0⟩, rfl, .inr ⟨.inr (.inl rfl), rfl⟩⟩
  rw [if_neg c1]
  by_cases c2 : pickP c 96 < 20
  · rw [if_pos c2]; exact ⟨⟨4, 0⟩, rfl, .inr ⟨.inr (.inr rfl), rfl⟩⟩
  rw [if_neg c2]
  by_cases c3 : pickP c 96 < 26
  · rw [if_pos c3, wrap_id (by omega) (by omega)]; exact ⟨⟨1, pickP c 96 - 20⟩, rfl, .inl ⟨rfl, by show 0 ≤ pickP c 96 - 20; omega, by show pickP c 96 - 20 ≤ 5; omega⟩⟩
  rw [if_neg c3]
  by_cases c4 : pickP c 96 = 26
  · rw [if_pos c4]; exact ⟨⟨2, 0⟩, rfl, .inr ⟨.inl rfl, rfl⟩⟩
  rw [if_neg c4]
  by_cases c5 : o ≥ 1
  · rw [if_pos c5]
    by_cases c6 : o < 7
    · rw [if_pos c6, wrap_id (by omega) (by omega)]; exact ⟨⟨1, o - 1⟩, rfl, .inl ⟨rfl, by show 0 ≤ o - 1; omega, by show o - 1 ≤ 5; omega⟩⟩
    · rw [if_neg c6]; exact ⟨⟨2, 0⟩, rfl, .inr ⟨.inl rfl, rfl⟩⟩
  · rw [if_neg c5]; exact ⟨⟨2, 0⟩, rfl, .inr ⟨.inl rfl, rfl⟩⟩
structure Evi (e : Int) (a b : List S54) : Prop where
  ab : a.length = b.length
  le : a.length ≤ 60
  ae : (a.length : Int) ≤ e
  va : ∀ x ∈ a, Vd x
  vb : ∀ x ∈ b, Vd x
theorem evi_l0 {l : List S74} {e : Int} (h : Tl l e) (hl : l.length ≤ 200) (ho : ∀ t o, own l t = some o → 0 ≤ o ∧ o ≤ 7) (y : List S101) (hw : ∀ x ∈ y, Q101 x) (d : Nat) : ∀ (k i : Nat) (a b : List S54), i + d = 60 → 2 * d + 300 < k → a.length = i → b.length = i → (i : Int) ≤ e → (∀ x ∈ a, Vd x) → (∀ x ∈ b, Vd x) →
    ∃ a' b', aircheckref38_Evidence.l0 k l y a b (i : Int) = some (a', b') ∧ Evi e a' b' := by
  induction d with
  | zero =>
    intro k i a b hi hk ha hb he va vb
    obtain ⟨k, rfl⟩ : ∃ m, k = m + 2 := ⟨k - 2, by omega⟩
    obtain rfl : i = 60 := by omega
    refine ⟨a, b, ?_, ⟨by omega, by omega, by omega, va, vb⟩⟩
    have e1 : aircheckref38_Evidence.j1 (k + 1) l y a b ((60 : Nat) : Int) false = some (a, b) := by simp only [aircheckref38_Evidence.j1]; rw [if_neg (by simp)]
    simp only [aircheckref38_Evidence.l0]
    by_cases c : ((60 : Nat) : Int) < (y.length : Int)
    · rw [if_pos c, if_neg (by omega), e1]
    · rw [if_neg c, e1]
  | succ d ih =>
    intro k i a b hi hk ha hb he va vb
    obtain ⟨k, rfl⟩ : ∃ m, k = m + 2 := ⟨k - 2, by omega⟩
    have e1 : aircheckref38_Evidence.j1 (k + 1) l y a b (i : Int) false = some (a, b) := by simp only [aircheckref38_Evidence.j1]; rw [if_neg (by simp)]
    have ev : Evi e a b := ⟨by omega, by omega, by omega, va, vb⟩
    simp only [aircheckref38_Evidence.l0]
    by_cases c : (i : Int) < (y.length : Int)
    · rw [if_pos c, if_pos (by omega), rEnd_tl h hl (by omega), Option.bind_some]
      by_cases c2 : (i : Int) < e
      · rw [decide_eq_true c2]
        obtain ⟨o, h1, h2⟩ := rat_f h hl (t := (i : Int)) (by omega) c2 (k := k) (by omega)
        have hlt : i < y.length := by omega
        have hq : Q101 y[i] := hw _ (List.getElem_mem hlt)
        obtain ⟨v1, f1, g1⟩ := verd_f (o := o) (I64.of hq.1) (ho _ _ h1).1 (ho _ _ h1).2
        obtain ⟨v2, f2, g2⟩ := verd_f (o := o) (I64.of hq.2) (ho _ _ h1).1 (ho _ _ h1).2
        simp only [aircheckref38_Evidence.j1]
        rw [if_pos trivial, h2, Option.bind_some, if_pos (by omega), if_pos (by omega), rd101 hlt, f1, Option.bind_some, if_pos (by omega), f2, Option.bind_some, if_pos (by omega), tl_wrap_up (n := 60) (by omega) (by omega)]
        refine ih k (i + 1) (a ++ [v1]) (b ++ [v2]) (by omega) (by omega) (by simp [ha]) (by simp [hb]) (by omega) (fun x hx => ?_) (fun x hx => ?_)
        · rcases List.mem_append.1 hx with hx | hx
          · exact va x hx
          · rw [List.mem_singleton.1 hx]; exact g1
        · rcases List.mem_append.1 hx with hx | hx
          · exact vb x hx
          · rw [List.mem_singleton.1 hx]; exact g2
      · rw [decide_eq_false c2]
        exact ⟨a, b, e1, ev⟩
    · rw [if_neg c]
      exact ⟨a, b, e1, ev⟩
theorem evi_f {l : List S74} {e : Int} (h : Tl l e) (hl : l.length ≤ 200) (h0 : 0 ≤ e) (ho : ∀ t o, own l t = some o → 0 ≤ o ∧ o ≤ 7) (y : List S101) (hw : ∀ x ∈ y, Q101 x) {k : Nat} (hk : 420 < k) :
    ∃ a b, aircheckref38_Evidence.f k l y = some (a, b) ∧ Evi e a b :=
  evi_l0 h hl ho y hw 60 k 0 [] [] (by omega) (by omega) rfl rfl (by omega) (by simp) (by simp)
theorem vv_l0 (a : List S54) (hv : ∀ x ∈ a, Vd x) (hn : a.length ≤ 200) (d : Nat) : ∀ (k i : Nat), i + d = a.length → d < k → heard_ValidVerdicts.l0 k a a (a.length : Int) (i : Int) = some true := by
  induction d with
  | zero =>
    intro k i hi hk
    obtain ⟨k, rfl⟩ : ∃ m, k = m + 1 := ⟨k - 1, by omega⟩
    simp only [heard_ValidVerdicts.l0]
    rw [if_neg (by omega), decide_eq_true (by omega)]
  | succ d ih =>
    intro k i hi hk
    obtain ⟨k, rfl⟩ : ∃ m, k = m + 1 := ⟨k - 1, by omega⟩
    have hlt : i < a.length := by omega
    have hx := hv _ (List.getElem_mem hlt)
    simp only [heard_ValidVerdicts.l0]
    rw [if_pos (by omega), if_pos (by omega), if_pos (by omega), rd54 hlt, tl_wrap_up hlt (by omega), ih k (i + 1) (by omega) (by omega)]
    rcases hx with ⟨h1, h2, h3⟩ | ⟨h1, h2⟩
    · by_cases c : (a[i]).f1 = 0
      · rw [if_neg (by simp [c]), if_neg (by omega), if_neg (by omega), if_neg (by omega), if_neg (by omega)]
      · rw [if_pos (by simp [c]), if_pos h1, if_neg (by omega), if_neg (by omega), if_neg (by omega), if_neg (by omega)]
    · rw [if_neg (by simp [h2]), if_neg (by omega), if_neg (by omega), if_neg (by omega), if_neg (by omega)]
theorem vv_f {a : List S54} (hv : ∀ x ∈ a, Vd x) (hn : a.length ≤ 200) {k : Nat} (hk : a.length < k) : heard_ValidVerdicts.f k a = some true := vv_l0 a hv hn a.length k 0 (by omega) hk
theorem jvalid_f {l : List S74} {e : Int} (h : Tl l e) (hl : l.length ≤ 200) {a b : List S54} (ev : Evi e a b) {k : Nat} (hk : 250 < k) : judge_evidence_valid.f k l 0 a b = some true := by
  have h1 := ev.le
  have h2 := ev.ab
  have h3 := ev.ae
  unfold judge_evidence_valid.f
  rw [valid_tl h hl (by omega), Option.bind_some, if_pos rfl, vv_f ev.va (by omega) (by omega), Option.bind_some, if_pos rfl, vv_f ev.vb (by omega) (by omega), Option.bind_some, if_pos rfl, if_pos (by omega), if_pos (by omega), end_tl h hl (by omega), Option.bind_some]
  have h4 : e ≤ 10000000 := by
    have h5 := jd_tend_le ((validB_iff l).2 ⟨⟨e, h⟩, hl⟩)
    rw [tend_cont h.cont] at h5
    exact h5.2
  rw [wrap_id (by omega) (by omega), decide_eq_true (by omega)]
theorem judge_f {l : List S74} {e : Int} (h : Tl l e) (hl : l.length ≤ 200) {a b : List S54} (ev : Evi e a b) (known : List Int) {k : Nat} (hk : 250 < k) :
    judge_Judge.f k l 0 a b known = some ((jd_res l 0 a b known).2.2 == 0, (jd_res l 0 a b known).1, (jd_res l 0 a b known).2.1, (jd_res l 0 a b known).2.2, 0) := by
  unfold judge_Judge.f
  rw [jvalid_f h hl ev hk, Option.bind_some, if_pos rfl]
theorem own_K : ∀ {l : List S74} {a b t : Int}, Cont l a b → a ≤ t → t < b → own l t = some (rd_T74 l (((l.takeWhile (fun s => decide (s.f1 ≤ t))).length : Nat) : Int)).f2
  | [], a, b, t, h, h1, h2 => by unfold Cont at h; omega
  | s :: l, a, b, t, h, h1, h2 => by
    have h3 := h.1
    simp only [own]
    by_cases c : s.f1 ≤ t
    · rw [if_neg (by omega), own_K h.2.2 c h2, List.takeWhile_cons, if_pos (by simp [c])]
      simp [rd_T74]
    · rw [if_pos (by omega), List.takeWhile_cons, if_neg (by simp [c])]
      simp [rd_T74]
def oK (l : List S74) (i : Nat) : Int := (rd_T74 l (jd_K l 0 i : Int)).f2
theorem oK_own {l : List S74} {e : Int} (h : Tl l e) {i : Nat} (hi : (i : Int) < e) : own l (i : Int) = some (oK l i) := by
  have h1 := own_K h.cont (t := 0 + (i : Int)) (by omega) (by omega)
  rw [Int.zero_add] at h1
  have h2 : oK l i = (rd_T74 l (((l.takeWhile (fun s => decide (s.f1 ≤ (i : Int)))).length : Nat) : Int)).f2 := by unfold oK jd_K; simp only [Int.zero_add]
  rw [h1, h2]
def sureB (a b : List S54) (i : Nat) : Bool := decide ((rd_T54 a i).f0 = (rd_T54 b i).f0 ∧ (rd_T54 a i).f1 = (rd_T54 b i).f1 ∧ jd_s (rd_T54 a i).f0 = true)
def jR (known : List Int) (l : List S74) (a b : List S54) (n : Nat) : Int × Int × Int := jd_run known (jd_F l (jd_K l 0) 0 a b n)
theorem jR_zero (known l a b) : jR known l a b 0 = (-1, 0, 0) := rfl
theorem jR_succ (known l a b n) : jR known l a b (n + 1) = if sureB a b n = true then jd_add (jR known l a b n) (n : Int) (jd_A (oK l n) (rd_T54 a n).f0 (rd_T54 a n).f1 known) else jR known l a b n := by
  unfold jR
  rw [jd_F_succ]
  unfold jd_fact sureB
  by_cases c : (rd_T54 a n).f0 = (rd_T54 b n).f0 ∧ (rd_T54 a n).f1 = (rd_T54 b n).f1 ∧ jd_s (rd_T54 a n).f0 = true
  · rw [if_pos c, if_pos (decide_eq_true c), jd_run_snoc, Int.zero_add]
    rfl
  · rw [if_neg c, if_neg (by rw [decide_eq_false c]; exact Bool.false_ne_true), List.append_nil]
structure RI (r : Int × Int × Int) (n : Nat) : Prop where
  a0 : 0 ≤ r.2.2
  a1 : r.2.2 ≤ r.2.1
  sn : r.2.1 ≤ n
  at0 : r.2.2 = 0 → r.1 = -1
  at1 : r.2.2 ≠ 0 → 0 ≤ r.1
  atn : r.1 < n
theorem jR_inv (known l a b) : ∀ n : Nat, n ≤ 1000 → RI (jR known l a b n) n
  | 0, _ => by rw [jR_zero]; exact ⟨by simp, by simp, by simp, by simp, by simp, by simp⟩
  | n + 1, hn => by
    obtain ⟨h1, h2, h3, h4, h5, h6⟩ := jR_inv known l a b n (by omega)
    rw [jR_succ]
    by_cases c : sureB a b n = true
    · rw [if_pos c]
      unfold jd_add
      generalize jR known l a b n = r at *
      rw [wrap_id (x := r.2.1 + 1) (by omega) (by omega), wrap_id (x := r.2.2 + 1) (by omega) (by omega)]
      split
      · refine ⟨by show 0 ≤ r.2.2 + 1; omega, by show r.2.2 + 1 ≤ r.2.1 + 1; omega, by show r.2.1 + 1 ≤ ((n + 1 : Nat) : Int); omega, fun h => absurd h (by show ¬ r.2.2 + 1 = 0; omega), fun _ => ?_, ?_⟩
        · show 0 ≤ if r.2.2 = 0 then (n : Int) else r.1
          split
          · omega
          · exact h5 ‹_›
        · show (if r.2.2 = 0 then (n : Int) else r.1) < ((n + 1 : Nat) : Int)
          split <;> omega
      · exact ⟨h1, by show r.2.2 ≤ r.2.1 + 1; omega, by show r.2.1 + 1 ≤ ((n + 1 : Nat) : Int); omega, h4, h5, by show r.1 < ((n + 1 : Nat) : Int); omega⟩
    · rw [if_neg c]
      exact ⟨h1, h2, by omega, h4, h5, by omega⟩
theorem sureB_swap (a b i) : sureB a b i = sureB b a i := by
  unfold sureB
  by_cases c : (rd_T54 a i).f0 = (rd_T54 b i).f0 ∧ (rd_T54 a i).f1 = (rd_T54 b i).f1
  · rw [c.1, c.2]
  · have h1 : ¬ ((rd_T54 a i).f0 = (rd_T54 b i).f0 ∧ (rd_T54 a i).f1 = (rd_T54 b i).f1 ∧ jd_s (rd_T54 a i).f0 = true) := fun h => c ⟨h.1, h.2.1⟩
    have h2 : ¬ ((rd_T54 b i).f0 = (rd_T54 a i).f0 ∧ (rd_T54 b i).f1 = (rd_T54 a i).f1 ∧ jd_s (rd_T54 b i).f0 = true) := fun h => c ⟨h.1.symm, h.2.1.symm⟩
    rw [decide_eq_false h1, decide_eq_false h2]
theorem jR_swap (known l a b) : ∀ n, jR known l a b n = jR known l b a n
  | 0 => rfl
  | n + 1 => by
    rw [jR_succ, jR_succ, jR_swap known l a b n, sureB_swap a b]
    by_cases c : sureB b a n = true
    · rw [if_pos c, if_pos c]
      have h := of_decide_eq_true c
      rw [h.1, h.2.1]
    · rw [if_neg c, if_neg c]
theorem jres_eq (known l a b) : jd_res l 0 a b known = jR known l a b a.length := rfl
def kn : List Int := [0, 1, 2, 3, 4, 5]
theorem against_f (o kd it : Int) {k : Nat} (hk : 9 ≤ k) : judge_Against.f k o kd it kn = some (jd_A o kd it kn) := at_rounds (judge_Against.mono _ _ _ _) hk (jd_A_f o kd it kn (by decide))
theorem known_f : aircheckref38_Known.f = some kn := rfl
theorem Evi.swap {e : Int} {a b : List S54} (h : Evi e a b) : Evi e b a := ⟨h.ab.symm, by have := h.ab; have := h.le; omega, by have := h.ab; have := h.ae; omega, h.vb, h.va⟩
end Go.Proofs.YtglcdgalimgkeaaDoor.PJB
