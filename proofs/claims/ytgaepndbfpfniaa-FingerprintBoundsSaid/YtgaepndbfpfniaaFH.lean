/- The plain theory of fingerprints, on; no condition. -/
import Derived.Test.YtgaepndbfpfniaaFD
namespace Go.Proofs.Ytgaepndbfpfniaa.PFB
open Go.RowKit Go.Proofs.YtgaepndbfpfniaaW.PrintWords Go.Proofs.YtgaepndbfpfniaaW.PrintLast Go.Proofs.YtgaepndbfpfniaaW.PrintMore
/-! Tables that keep the inequalities. -/
def tv (T : List (List Int)) (i j : Int) : Int := rd (rd_L1 T i) j
def dif (x y : Int) : Int := if x = y then 0 else 1
def cellOK (h c : List Int) (T : List (List Int)) (i j : Int) : Prop :=
  -1000 ≤ tv T i j ∧ tv T i j ≤ 1000 ∧ (i = 0 → tv T i j ≤ 0) ∧ (0 < i → tv T i j ≤ tv T (i - 1) j + 1) ∧ (0 < j → tv T i j ≤ tv T i (j - 1) + 1) ∧ (0 < i → 0 < j → tv T i j ≤ tv T (i - 1) (j - 1) + dif (rd h (i - 1)) (rd c (j - 1)))
def okTv (T : List (List Int)) (i j : Int) : Prop := -1000 ≤ tv T i j ∧ tv T i j ≤ 1000
theorem mn_lt {a b t : Int} : mn a b < t ↔ a < t ∨ b < t := by unfold mn; split <;> omega
theorem step_ite {α : Type} {t m : Int} {P : Prop} [Decidable P] {x y : α} (h : P ↔ ¬ t < -1000 ∧ ¬ t > m) : (if t < -1000 then x else if t > m then x else y) = if P then y else x := by
  by_cases p : P
  · rw [if_pos p, if_neg (h.1 p).1, if_neg (h.1 p).2]
  · rw [if_neg p]
    by_cases q : t < -1000
    · rw [if_pos q]
    · rw [if_neg q, if_pos (Classical.byContradiction fun r => p (h.2 ⟨q, r⟩))]
open Classical in
theorem bound_cell {h c : List Int} {T : List (List Int)} {i j : Int} (hi0 : 0 ≤ i) (hi1 : i < (T.length : Int)) (hT : (T.length : Int) = h.length + 1) (hh : h.length ≤ 60) (hc : c.length ≤ 60)
    (hrow : ((rd_L1 T i).length : Int) = c.length + 1) (hrow' : 0 < i → ((rd_L1 T (i - 1)).length : Int) = c.length + 1) (hj0 : 0 ≤ j) (hj1 : j ≤ (c.length : Int))
    (hp : 0 < i → okTv T (i - 1) j) (hq : 0 < j → okTv T i (j - 1)) (hr : 0 < i → 0 < j → okTv T (i - 1) (j - 1)) {k : Nat} (hk : 7 ≤ k) :
    ∃ k', k ≤ k' + 7 ∧ fingerprint_Bound.l1 k h c T i (rd_L1 T i) T (T.length : Int) i (rd_L1 T i) ((rd_L1 T i).length : Int) j = if cellOK h c T i j then fingerprint_Bound.l1 k' h c T i (rd_L1 T i) T (T.length : Int) i (rd_L1 T i) ((rd_L1 T i).length : Int) (j + 1) else some (0, false) := by
  obtain ⟨k, rfl⟩ : ∃ m, k = m + 7 := ⟨k - 7, by omega⟩
  have hw : wrap64 (j + 1) = j + 1 := wrap_id (by omega) (by omega)
  have hwi : wrap64 (i - 1) = i - 1 := wrap_id (by omega) (by omega)
  have hwj : wrap64 (j - 1) = j - 1 := wrap_id (by omega) (by omega)
  by_cases a : i = 0
  · have t0 : ¬ i > 0 := by omega
    by_cases b : j = 0
    · have t1 : ¬ j > 0 := by omega
      refine ⟨k + 1, by omega, ?_⟩
      rw [fingerprint_Bound.l1, if_pos (by omega), if_pos hj0, if_pos (by omega), if_pos a, fingerprint_Bound.j3, if_neg t0, fingerprint_Bound.j4, if_neg t1, fingerprint_Bound.j5, if_neg t0, fingerprint_Bound.j6, if_neg (by simp), if_neg t0, fingerprint_Bound.j7, if_neg (by simp), hw]
      refine step_ite ?_
      show cellOK h c T i j ↔ ¬ tv T i j < -1000 ∧ ¬ tv T i j > 0
      unfold cellOK
      constructor
      · rintro ⟨h1, h2, h3, _⟩; have := h3 a; omega
      · rintro ⟨h1, h2⟩; exact ⟨by omega, by omega, fun _ => by omega, fun q => absurd q t0, fun q => absurd q t1, fun q => absurd q t0⟩
    · have t1 : j > 0 := by omega
      have q1 := hq t1
      have hwq : wrap64 (rd (rd_L1 T i) (j - 1) + 1) = tv T i (j - 1) + 1 := wrap_id (by have := q1.1; unfold tv at this; omega) (by have := q1.2; unfold tv at this; omega)
      refine ⟨k + 1, by omega, ?_⟩
      rw [fingerprint_Bound.l1, if_pos (by omega), if_pos hj0, if_pos (by omega), if_pos a, fingerprint_Bound.j3, if_neg t0, fingerprint_Bound.j4, if_pos t1, hwj, if_pos (by omega), if_pos (by omega), hwq, fingerprint_Bound.j5, if_neg t0, fingerprint_Bound.j6, if_neg (by simp), if_neg t0, fingerprint_Bound.j7, if_neg (by simp), hw]
      refine step_ite ?_
      show cellOK h c T i j ↔ ¬ tv T i j < -1000 ∧ ¬ mn 0 (tv T i (j - 1) + 1) < tv T i j
      rw [mn_lt]
      unfold cellOK
      constructor
      · rintro ⟨h1, h2, h3, _, h5, _⟩; have := h3 a; have := h5 t1; omega
      · rintro ⟨h1, h2⟩; exact ⟨by omega, by omega, fun _ => by omega, fun q => absurd q t0, fun _ => by omega, fun q => absurd q t0⟩
  · have t0 : i > 0 := by omega
    have p1 := hp t0
    have hr1 := hrow' t0
    have hwp : wrap64 (rd (rd_L1 T (i - 1)) j + 1) = tv T (i - 1) j + 1 := wrap_id (by have := p1.1; unfold tv at this; omega) (by have := p1.2; unfold tv at this; omega)
    by_cases b : j = 0
    · have t1 : ¬ j > 0 := by omega
      refine ⟨k + 1, by omega, ?_⟩
      rw [fingerprint_Bound.l1, if_pos (by omega), if_pos hj0, if_pos (by omega), if_neg a, fingerprint_Bound.j3, if_pos t0, hwi, if_pos (by omega), if_pos (by omega), if_pos hj0, if_pos (by omega), hwp, fingerprint_Bound.j4, if_neg t1, fingerprint_Bound.j5, if_pos t0, if_neg t1, fingerprint_Bound.j6, if_neg (by simp), if_pos t0, decide_eq_false t1, fingerprint_Bound.j7, if_neg (by simp), hw]
      refine step_ite ?_
      show cellOK h c T i j ↔ ¬ tv T i j < -1000 ∧ ¬ mn 1000 (tv T (i - 1) j + 1) < tv T i j
      rw [mn_lt]
      unfold cellOK
      constructor
      · rintro ⟨h1, h2, h3, h4, h5, _⟩; have := h4 t0; omega
      · rintro ⟨h1, h2⟩; exact ⟨by omega, by omega, fun q => absurd q a, fun _ => by omega, fun q => absurd q t1, fun _ q => absurd q t1⟩
    · have t1 : j > 0 := by omega
      have q1 := hq t1
      have r1 := hr t0 t1
      have hwq : wrap64 (rd (rd_L1 T i) (j - 1) + 1) = tv T i (j - 1) + 1 := wrap_id (by have := q1.1; unfold tv at this; omega) (by have := q1.2; unfold tv at this; omega)
      have hwr : wrap64 (rd (rd_L1 T (i - 1)) (j - 1) + 1) = tv T (i - 1) (j - 1) + 1 := wrap_id (by have := r1.1; unfold tv at this; omega) (by have := r1.2; unfold tv at this; omega)
      by_cases e : rd h (i - 1) = rd c (j - 1)
      · refine ⟨k + 2, by omega, ?_⟩
        rw [fingerprint_Bound.l1, if_pos (by omega), if_pos hj0, if_pos (by omega), if_neg a, fingerprint_Bound.j3, if_pos t0, hwi, if_pos (by omega), if_pos (by omega), if_pos hj0, if_pos (by omega), hwp, fingerprint_Bound.j4, if_pos t1, hwj, if_pos (by omega), if_pos (by omega), hwq, fingerprint_Bound.j5, if_pos t0, if_pos t1, hwi, if_pos (by omega), if_pos (by omega), hwj, if_pos (by omega), if_pos (by omega), e, fingerprint_Bound.j6, if_pos (by simp), hwi, if_pos (by omega), if_pos (by omega), hwj, if_pos (by omega), if_pos (by omega), hw]
        refine step_ite ?_
        show cellOK h c T i j ↔ ¬ tv T i j < -1000 ∧ ¬ mn (mn (mn 1000 (tv T (i - 1) j + 1)) (tv T i (j - 1) + 1)) (tv T (i - 1) (j - 1)) < tv T i j
        rw [mn_lt, mn_lt, mn_lt]
        unfold cellOK dif
        rw [if_pos e]
        constructor
        · rintro ⟨h1, h2, h3, h4, h5, h6⟩; have := h4 t0; have := h5 t1; have := h6 t0 t1; omega
        · rintro ⟨h1, h2⟩; exact ⟨by omega, by omega, fun q => absurd q a, fun _ => by omega, fun _ => by omega, fun _ _ => by omega⟩
      · have e' : (rd h (i - 1) == rd c (j - 1)) = false := by simpa using e
        refine ⟨k + 1, by omega, ?_⟩
        rw [fingerprint_Bound.l1, if_pos (by omega), if_pos hj0, if_pos (by omega), if_neg a, fingerprint_Bound.j3, if_pos t0, hwi, if_pos (by omega), if_pos (by omega), if_pos hj0, if_pos (by omega), hwp, fingerprint_Bound.j4, if_pos t1, hwj, if_pos (by omega), if_pos (by omega), hwq, fingerprint_Bound.j5, if_pos t0, if_pos t1, hwi, if_pos (by omega), if_pos (by omega), hwj, if_pos (by omega), if_pos (by omega), e', fingerprint_Bound.j6, if_neg (by simp), if_pos t0, decide_eq_true t1, fingerprint_Bound.j7, if_pos rfl, hwi, if_pos (by omega), if_pos (by omega), hwj, if_pos (by omega), if_pos (by omega), hwr, hw]
        refine step_ite ?_
        show cellOK h c T i j ↔ ¬ tv T i j < -1000 ∧ ¬ mn (mn (mn 1000 (tv T (i - 1) j + 1)) (tv T i (j - 1) + 1)) (tv T (i - 1) (j - 1) + 1) < tv T i j
        rw [mn_lt, mn_lt, mn_lt]
        unfold cellOK dif
        rw [if_neg e]
        constructor
        · rintro ⟨h1, h2, h3, h4, h5, h6⟩; have := h4 t0; have := h5 t1; have := h6 t0 t1; omega
        · rintro ⟨h1, h2⟩; exact ⟨by omega, by omega, fun q => absurd q a, fun _ => by omega, fun _ => by omega, fun _ _ => by omega⟩
def rowOK (h c : List Int) (T : List (List Int)) (i : Int) (j0 : Int) : Prop := ∀ j, j0 ≤ j → j ≤ (c.length : Int) → cellOK h c T i j
theorem cellOK.okTv {h c : List Int} {T : List (List Int)} {i j : Int} (q : cellOK h c T i j) : okTv T i j := ⟨q.1, q.2.1⟩
open Classical in
theorem bound_l1 {h c : List Int} {T : List (List Int)} {i : Int} (hi0 : 0 ≤ i) (hi1 : i < (T.length : Int)) (hT : (T.length : Int) = h.length + 1) (hh : h.length ≤ 60) (hc : c.length ≤ 60)
    (hrow : ((rd_L1 T i).length : Int) = c.length + 1) (hrow' : 0 < i → ((rd_L1 T (i - 1)).length : Int) = c.length + 1) (hpr : 0 < i → rowOK h c T (i - 1) 0)
    {F : Nat} {R : Int × Bool} (hF : rowOK h c T i 0 → ∀ k, F ≤ k → fingerprint_Bound.l0 k h c T T (T.length : Int) (i + 1) = some R) (d : Nat) :
    ∀ (k : Nat) (j : Int), 0 ≤ j → j ≤ c.length + 1 → (c.length : Int) + 1 - j = d → (∀ j', 0 ≤ j' → j' < j → cellOK h c T i j') → 7 * d + F + 1 ≤ k →
      fingerprint_Bound.l1 k h c T i (rd_L1 T i) T (T.length : Int) i (rd_L1 T i) ((rd_L1 T i).length : Int) j = some (if rowOK h c T i j then R else (0, false)) := by
  induction d with
  | zero =>
    intro k j h0 h1 hd hb hk
    obtain ⟨k, rfl⟩ : ∃ m, k = m + 1 := ⟨k - 1, by omega⟩
    have hj : j = c.length + 1 := by omega
    have e1 : rowOK h c T i j := fun j' q1 q2 => by omega
    rw [fingerprint_Bound.l1, if_neg (by omega), wrap_id (by omega) (by omega), hF (fun j' q1 q2 => hb j' q1 (by omega)) k (by omega), if_pos e1]
  | succ d ih =>
    intro k j h0 h1 hd hb hk
    have hj1 : j ≤ (c.length : Int) := by omega
    obtain ⟨k', hk', e⟩ := bound_cell hi0 hi1 hT hh hc hrow hrow' h0 hj1 (fun q => (hpr q j h0 hj1).okTv) (fun q => (hb (j - 1) (by omega) (by omega)).okTv) (fun q q' => (hpr q (j - 1) (by omega) (by omega)).okTv) (k := k) (by omega)
    rw [e]
    by_cases q : cellOK h c T i j
    · rw [if_pos q, ih k' (j + 1) (by omega) (by omega) (by omega) (fun j' q1 q2 => by
        by_cases q3 : j' = j
        · rw [q3]; exact q
        · exact hb j' q1 (by omega)) (by omega)]
      by_cases q2 : rowOK h c T i (j + 1)
      · have q3 : rowOK h c T i j := fun j' r1 r2 => by
          by_cases r3 : j' = j
          · rw [r3]; exact q
          · exact q2 j' (by omega) r2
        rw [if_pos q2, if_pos q3]
      · have q3 : ¬ rowOK h c T i j := fun r => q2 (fun j' r1 r2 => r j' (by omega) r2)
        rw [if_neg q2, if_neg q3]
    · have q3 : ¬ rowOK h c T i j := fun r => q (r j (by omega) hj1)
      rw [if_neg q, if_neg q3]
/-- The table keeps the inequalities (from row i on). -/
structure Keeps (h c : List Int) (T : List (List Int)) (i : Int) : Prop where
  rows : ∀ a, i ≤ a → a < (T.length : Int) → ((rd_L1 T a).length : Int) = c.length + 1
  cells : ∀ a, i ≤ a → a < (T.length : Int) → rowOK h c T a 0
theorem min_ex : ∀ {l : List Int}, l ≠ [] → ∃ m, slices_Min_int_int.f l = some m ∧ m ∈ l ∧ ∀ x ∈ l, m ≤ x
  | [], h => absurd rfl h
  | x :: l, _ => ⟨fp_minF x l, rfl, by rcases fp_minF_mem l x with e | e
                                       · rw [e]; simp
                                       · exact List.mem_cons_of_mem _ e, fun y hy => by
    rcases List.mem_cons.1 hy with rfl | hy
    · exact (fp_minF_le l _).1
    · exact (fp_minF_le l _).2 y hy⟩
open Classical in
theorem bound_l0 {h c : List Int} {T : List (List Int)} (hT : (T.length : Int) = h.length + 1) (hh : h.length ≤ 60) (hc : c.length ≤ 60) (e : Nat) :
    ∀ (i : Int), 0 ≤ i → i ≤ T.length → (T.length : Int) - i = e → (∀ a, 0 ≤ a → a < i → ((rd_L1 T a).length : Int) = c.length + 1 ∧ rowOK h c T a 0) →
      ∃ m, (Keeps h c T i → slices_Min_int_int.f (rd_L1 T (h.length : Int)) = some m) ∧ ∀ k, 500 * e + 1 ≤ k → fingerprint_Bound.l0 k h c T T (T.length : Int) i = some (if Keeps h c T i then (m, true) else (0, false)) := by
  induction e with
  | zero =>
    intro i h0 h1 he hb
    have hi : i = T.length := by omega
    have hl := (hb (h.length : Int) (by omega) (by omega)).1
    obtain ⟨m, hm, _, _⟩ := min_ex (l := rd_L1 T (h.length : Int)) (fun e => by rw [e] at hl; simp at hl; omega)
    refine ⟨m, fun _ => hm, fun k hk => ?_⟩
    obtain ⟨k, rfl⟩ : ∃ m, k = m + 1 := ⟨k - 1, by omega⟩
    have q : Keeps h c T i := ⟨fun a r1 r2 => by omega, fun a r1 r2 => by omega⟩
    rw [fingerprint_Bound.l0, if_neg (by omega), if_pos (by omega), if_pos (by omega), hm, Option.bind_some, if_pos q]
  | succ e ih =>
    intro i h0 h1 he hb
    have hi1 : i < (T.length : Int) := by omega
    have hw : wrap64 ((c.length : Int) + 1) = c.length + 1 := wrap_id (by omega) (by omega)
    by_cases hr : ((rd_L1 T i).length : Int) = c.length + 1
    · have hr' : 0 < i → ((rd_L1 T (i - 1)).length : Int) = c.length + 1 := fun q => (hb (i - 1) (by omega) (by omega)).1
      have hpr : 0 < i → rowOK h c T (i - 1) 0 := fun q => (hb (i - 1) (by omega) (by omega)).2
      by_cases hok : rowOK h c T i 0
      · obtain ⟨m, hm, hf⟩ := ih (i + 1) (by omega) (by omega) (by omega) (fun a r1 r2 => by
          by_cases r3 : a = i
          · rw [r3]; exact ⟨hr, hok⟩
          · exact hb a r1 (by omega))
        have hK : Keeps h c T i ↔ Keeps h c T (i + 1) := ⟨fun q => ⟨fun a r1 r2 => q.rows a (by omega) r2, fun a r1 r2 => q.cells a (by omega) r2⟩, fun q => ⟨fun a r1 r2 => by
          by_cases r3 : a = i
          · rw [r3]; exact hr
          · exact q.rows a (by omega) r2, fun a r1 r2 => by
          by_cases r3 : a = i
          · rw [r3]; exact hok
          · exact q.cells a (by omega) r2⟩⟩
        refine ⟨m, fun q => hm (hK.1 q), fun k hk => ?_⟩
        obtain ⟨k, rfl⟩ : ∃ m, k = m + 1 := ⟨k - 1, by omega⟩
        have := bound_l1 h0 hi1 hT hh hc hr hr' hpr (F := 500 * e + 1) (R := if Keeps h c T (i + 1) then (m, true) else (0, false)) (fun _ k hk => hf k hk) (c.length + 1) k 0 (by omega) (by omega) (by omega) (fun j' q1 q2 => by omega) (by omega)
        rw [fingerprint_Bound.l0, if_pos hi1, if_pos h0, if_pos hi1, hw, if_pos hr, this, if_pos hok]
        simp only [hK]
      · have hK : ¬ Keeps h c T i := fun q => hok (q.cells i (by omega) hi1)
        refine ⟨0, fun q => absurd q hK, fun k hk => ?_⟩
        obtain ⟨k, rfl⟩ : ∃ m, k = m + 1 := ⟨k - 1, by omega⟩
        have := bound_l1 h0 hi1 hT hh hc hr hr' hpr (F := 0) (R := (0, false)) (fun q => absurd q hok) (c.length + 1) k 0 (by omega) (by omega) (by omega) (fun j' q1 q2 => by omega) (by omega)
        rw [fingerprint_Bound.l0, if_pos hi1, if_pos h0, if_pos hi1, hw, if_pos hr, this, if_neg hok, if_neg hK]
    · have hK : ¬ Keeps h c T i := fun q => hr (q.rows i (by omega) hi1)
      refine ⟨0, fun q => absurd q hK, fun k hk => ?_⟩
      obtain ⟨k, rfl⟩ : ∃ m, k = m + 1 := ⟨k - 1, by omega⟩
      rw [fingerprint_Bound.l0, if_pos hi1, if_pos h0, if_pos hi1, hw, if_neg hr, if_neg hK]
open Classical in
theorem bound_f {h c : List Int} (Hh : Hd h) (Hc : Pr c) (T : List (List Int)) (hT : (T.length : Int) = h.length + 1) {k : Nat} (hk : 40000 ≤ k) :
    (Keeps h c T 0 ∧ ∃ m, fingerprint_Bound.f k h c T = some (m, true) ∧ slices_Min_int_int.f (rd_L1 T (h.length : Int)) = some m) ∨ (¬ Keeps h c T 0 ∧ fingerprint_Bound.f k h c T = some (0, false)) := by
  have hh := Hh.1
  have hc := Hc.hd.1
  obtain ⟨m, hm, hf⟩ := bound_l0 hT hh hc T.length 0 (by omega) (by omega) (by omega) (fun a q1 q2 => by omega)
  obtain ⟨k, rfl⟩ : ∃ m, k = m + 1 := ⟨k - 1, by omega⟩
  have e : fingerprint_Bound.f (k + 1) h c T = some (if Keeps h c T 0 then (m, true) else (0, false)) := by
    unfold fingerprint_Bound.f
    rw [heard_f Hh, Option.bind_some, if_pos rfl, isPrint_f Hc, Option.bind_some, if_pos rfl, wrap_id (by omega) (by omega), fingerprint_Bound.j0, if_neg (by simp; omega), hf k (by omega)]
  rw [e]
  by_cases q : Keeps h c T 0
  · rw [if_pos q]; exact .inl ⟨q, m, rfl, hm q⟩
  · rw [if_neg q]; exact .inr ⟨q, rfl⟩
/-- What such a table proves. -/
theorem take_rev_cons {l : List Int} {i : Nat} {x : Int} {a : List Int} (hi : i ≤ l.length) (e : (l.take i).reverse = x :: a) : ∃ j, i = j + 1 ∧ a = (l.take j).reverse ∧ rd l (j : Int) = x := by
  cases i with
  | zero => simp at e
  | succ j =>
    rw [List.take_succ_eq_append_getElem (by omega), List.reverse_append] at e
    simp only [List.reverse_cons, List.reverse_nil, List.nil_append, List.cons_append, List.cons.injEq] at e
    exact ⟨j, rfl, e.2.symm, by rw [rd_get (by omega)]; exact e.1⟩
theorem dif_le (x y : Int) : 0 ≤ dif x y ∧ dif x y ≤ 1 := by unfold dif; split <;> omega
theorem Keeps.part {h c : List Int} {T : List (List Int)} (K : Keeps h c T 0) (hT : (T.length : Int) = h.length + 1) {a b : List Int} {m : Nat} (e : Ed a b m) :
    ∀ (i j : Nat), i ≤ h.length → j ≤ c.length → (h.take i).reverse = a → (∃ s, (c.take j).reverse = b ++ s) → tv T (i : Int) (j : Int) ≤ m := by
  induction e with
  | nil =>
    intro i j hi hj ea _
    have : i = 0 := by
      cases i with
      | zero => rfl
      | succ i => have := congrArg List.length ea; rw [List.length_reverse, List.length_take, List.length_nil] at this; omega
    subst this
    have := (K.cells 0 (by omega) (by omega) (j : Int) (by omega) (by omega)).2.2.1 rfl
    exact this
  | keep x _ ih =>
    intro i j hi hj ea eb
    obtain ⟨s, eb⟩ := eb
    obtain ⟨i, rfl, ea, hx⟩ := take_rev_cons hi ea
    obtain ⟨j, rfl, eb, hy⟩ := take_rev_cons hj eb
    have h1 := ih i j (by omega) (by omega) ea.symm ⟨s, eb.symm⟩
    have h2 := (K.cells ((i + 1 : Nat) : Int) (by omega) (by omega) ((j + 1 : Nat) : Int) (by omega) (by omega)).2.2.2.2.2 (by omega) (by omega)
    rw [show ((i + 1 : Nat) : Int) - 1 = i by omega, show ((j + 1 : Nat) : Int) - 1 = j by omega, hx, hy, show dif x x = 0 from if_pos rfl] at h2
    omega
  | other x y _ ih =>
    intro i j hi hj ea eb
    obtain ⟨s, eb⟩ := eb
    obtain ⟨i, rfl, ea, hx⟩ := take_rev_cons hi ea
    obtain ⟨j, rfl, eb, hy⟩ := take_rev_cons hj eb
    have h1 := ih i j (by omega) (by omega) ea.symm ⟨s, eb.symm⟩
    have h2 := (K.cells ((i + 1 : Nat) : Int) (by omega) (by omega) ((j + 1 : Nat) : Int) (by omega) (by omega)).2.2.2.2.2 (by omega) (by omega)
    rw [show ((i + 1 : Nat) : Int) - 1 = i by omega, show ((j + 1 : Nat) : Int) - 1 = j by omega, hx, hy] at h2
    have := dif_le x y
    omega
  | extra x _ ih =>
    intro i j hi hj ea eb
    obtain ⟨i, rfl, ea, hx⟩ := take_rev_cons hi ea
    have h1 := ih i j (by omega) (by omega) ea.symm eb
    have h2 := (K.cells ((i + 1 : Nat) : Int) (by omega) (by omega) (j : Int) (by omega) (by omega)).2.2.2.1 (by omega)
    rw [show ((i + 1 : Nat) : Int) - 1 = i by omega] at h2
    omega
  | lost y _ ih =>
    intro i j hi hj ea eb
    obtain ⟨s, eb⟩ := eb
    obtain ⟨j, rfl, eb, hy⟩ := take_rev_cons hj eb
    have h1 := ih i j (by omega) (by omega) ea ⟨s, eb.symm⟩
    have h2 := (K.cells (i : Int) (by omega) (by omega) ((j + 1 : Nat) : Int) (by omega) (by omega)).2.2.2.2.1 (by omega)
    rw [show ((j + 1 : Nat) : Int) - 1 = j by omega] at h2
    omega
theorem rd_mem {l : List Int} {j : Nat} (h : j < l.length) : rd l (j : Int) ∈ l := by rw [rd_get h]; exact List.getElem_mem h
theorem Keeps.least {h c : List Int} {T : List (List Int)} (K : Keeps h c T 0) (hT : (T.length : Int) = h.length + 1) {n : Int} (hn : slices_Min_int_int.f (rd_L1 T (h.length : Int)) = some n) {i j m : Nat} (hj : j ≤ c.length) (e : Ed h ((c.take j).drop i) m) : n ≤ m := by
  have hl := K.rows (h.length : Int) (by omega) (by omega)
  obtain ⟨n', e', _, hle⟩ := min_ex (l := rd_L1 T (h.length : Int)) (fun e => by rw [e] at hl; simp at hl; omega)
  rw [hn] at e'
  obtain rfl := Option.some.inj e'
  have h1 := hle _ (rd_mem (j := j) (by omega))
  have h2 := K.part hT e.reverse h.length j (Nat.le_refl _) hj (by rw [List.take_of_length_le (Nat.le_refl _)]) ⟨((c.take j).take i).reverse, by rw [← List.reverse_append, List.take_append_drop]⟩
  unfold tv at h2
  omega
/-! The table of the least distances. -/
theorem rows_get {h c : List Int} (hh : h.length ≤ 60) (hc : c.length ≤ 60) {i : Nat} (hi : i ≤ h.length) : rd_L1 (fp_rowsP h c true) (i : Int) = rowG fr (h.take i).reverse [] c := by
  unfold rd_L1
  rw [Int.toNat_natCast, rowsP_getD h c true hi, lastP_eq (h.take i) c true (by simp; omega) (by omega)]
  rfl
theorem rows_tv {h c : List Int} (hh : h.length ≤ 60) (hc : c.length ≤ 60) {i j : Nat} (hi : i ≤ h.length) (hj : j ≤ c.length) : tv (fp_rowsP h c true) (i : Int) (j : Int) = (fr (h.take i).reverse (c.take j).reverse : Int) := by
  unfold tv
  rw [rows_get hh hc hi, rowG_rd fr _ c hj]
theorem rows_len (h c : List Int) : (fp_rowsP h c true).length = h.length + 1 := by unfold fp_rowsP; simp [fp_rowsF_length]
theorem rev_take {l : List Int} {i : Nat} (h : i < l.length) : (l.take (i + 1)).reverse = rd l (i : Int) :: (l.take i).reverse := by
  rw [List.take_succ_eq_append_getElem h, List.reverse_append, rd_get h]; rfl
theorem rows_keep {h c : List Int} (hh : h.length ≤ 60) (hc : c.length ≤ 60) : Keeps h c (fp_rowsP h c true) 0 := by
  refine ⟨fun a h0 h1 => ?_, fun a h0 h1 j q0 q1 => ?_⟩
  · obtain ⟨i, rfl⟩ : ∃ i : Nat, a = i := ⟨a.toNat, by omega⟩
    rw [rows_len] at h1
    rw [rows_get hh hc (by omega), rowG_length]
    omega
  · obtain ⟨i, rfl⟩ : ∃ i : Nat, a = i := ⟨a.toNat, by omega⟩
    obtain ⟨j, rfl⟩ : ∃ i : Nat, j = i := ⟨j.toNat, by omega⟩
    rw [rows_len] at h1
    have e := rows_tv hh hc (i := i) (j := j) (by omega) (by omega)
    have hle : fr (h.take i).reverse (c.take j).reverse ≤ i := by
      have := fr_le (Ed.dels (h.take i).reverse) (c.take j).reverse
      simp only [List.nil_append, List.length_reverse, List.length_take] at this
      omega
    unfold cellOK
    rw [e]
    refine ⟨by omega, by omega, fun q => ?_, fun q => ?_, fun q => ?_, fun q q' => ?_⟩
    · obtain rfl : i = 0 := by omega
      rw [List.take_zero, List.reverse_nil, fr_nil]; omega
    · obtain ⟨i, rfl⟩ : ∃ m, i = m + 1 := ⟨i - 1, by omega⟩
      rw [show ((i + 1 : Nat) : Int) - 1 = (i : Int) by omega, rows_tv hh hc (by omega) (by omega), rev_take (by omega)]
      have := fr_extra (rd h (i : Int)) (h.take i).reverse (c.take j).reverse
      omega
    · obtain ⟨j, rfl⟩ : ∃ m, j = m + 1 := ⟨j - 1, by omega⟩
      rw [show ((j + 1 : Nat) : Int) - 1 = (j : Int) by omega, rows_tv hh hc (by omega) (by omega), rev_take (l := c) (by omega)]
      have := fr_lost (rd c (j : Int)) (h.take i).reverse (c.take j).reverse
      omega
    · obtain ⟨i, rfl⟩ : ∃ m, i = m + 1 := ⟨i - 1, by omega⟩
      obtain ⟨j, rfl⟩ : ∃ m, j = m + 1 := ⟨j - 1, by omega⟩
      rw [show ((i + 1 : Nat) : Int) - 1 = (i : Int) by omega, show ((j + 1 : Nat) : Int) - 1 = (j : Int) by omega, rows_tv hh hc (by omega) (by omega), rev_take (l := c) (by omega), rev_take (l := h) (by omega)]
      have := fr_both (rd h (i : Int)) (rd c (j : Int)) (h.take i).reverse (c.take j).reverse
      have e2 : dif (rd h (i : Int)) (rd c (j : Int)) = (ne01 (rd h (i : Int)) (rd c (j : Int)) : Int) := by unfold dif ne01; split <;> rfl
      rw [e2]
      omega
/-! Cut and lowered. -/
def lowR (q p : Int) (r : List Int) : List Int := r.map (fun v => mn v q - p)
def lowT (q p : Int) (T : List (List Int)) : List (List Int) := T.map (lowR q p)
theorem lowT_rd {q p : Int} {T : List (List Int)} {i : Int} (h0 : 0 ≤ i) (h1 : i < (T.length : Int)) : rd_L1 (lowT q p T) i = lowR q p (rd_L1 T i) := by
  unfold rd_L1 lowT
  rw [List.getD_eq_getElem?_getD, List.getD_eq_getElem?_getD, List.getElem?_map, List.getElem?_eq_getElem (by omega)]
  rfl
theorem lowT_tv {q p : Int} {T : List (List Int)} {i j : Int} (h0 : 0 ≤ i) (h1 : i < (T.length : Int)) (g0 : 0 ≤ j) (g1 : j < ((rd_L1 T i).length : Int)) : tv (lowT q p T) i j = mn (tv T i j) q - p := by
  unfold tv
  rw [lowT_rd h0 h1]
  unfold lowR rd
  rw [List.getD_eq_getElem?_getD, List.getD_eq_getElem?_getD, List.getElem?_map, List.getElem?_eq_getElem (by omega)]
  rfl
theorem low_keep {h c : List Int} {T : List (List Int)} {q p : Int} (K : Keeps h c T 0) (hq : 0 ≤ q) (hp : 0 ≤ p) (hp2 : p ≤ 900) (hpos : ∀ i j : Int, 0 ≤ i → i < (T.length : Int) → 0 ≤ j → j ≤ (c.length : Int) → -100 ≤ tv T i j) : Keeps h c (lowT q p T) 0 := by
  have hlen : (lowT q p T).length = T.length := by unfold lowT; simp
  refine ⟨fun a h0 h1 => ?_, fun a h0 h1 j g0 g1 => ?_⟩
  · rw [hlen] at h1
    rw [lowT_rd h0 h1]
    have := K.rows a h0 h1
    unfold lowR; simpa using this
  · rw [hlen] at h1
    have hr := K.rows a h0 h1
    obtain ⟨c1, c2, c3, c4, c5, c6⟩ := K.cells a h0 h1 j g0 g1
    have h9 := hpos a j h0 h1 g0 g1
    have e := lowT_tv (q := q) (p := p) h0 h1 g0 (by omega)
    unfold cellOK
    rw [e]
    refine ⟨?_, ?_, fun z => ?_, fun z => ?_, fun z => ?_, fun z z' => ?_⟩
    · unfold mn; split <;> omega
    · unfold mn; split <;> omega
    · have := c3 z; unfold mn; split <;> omega
    · have hr' := K.rows (a - 1) (by omega) (by omega)
      rw [lowT_tv (by omega) (by omega) g0 (by omega)]
      have := c4 z; unfold mn; split <;> split <;> omega
    · rw [lowT_tv h0 h1 (by omega) (by omega)]
      have := c5 z; unfold mn; split <;> split <;> omega
    · have hr' := K.rows (a - 1) (by omega) (by omega)
      rw [lowT_tv (by omega) (by omega) (by omega) (by omega)]
      have := c6 z z'
      have := dif_le (rd h (a - 1)) (rd c (j - 1))
      unfold mn; split <;> split <;> omega
/-! Check, whatever the operations. -/
def chk : List Int → List Int → List Int → Option Nat
  | [], h, p => if h = [] ∧ p = [] then some 0 else none
  | op :: s, h, p =>
    if op = 1 then (match h, p with | x :: h, y :: p => if x = y then chk s h p else none | _, _ => none)
    else if op = 2 then (match h, p with | x :: h, y :: p => if x = y then none else (chk s h p).map (· + 1) | _, _ => none)
    else if op = 3 then (match h with | _ :: h => (chk s h p).map (· + 1) | _ => none)
    else if op = 4 then (match p with | _ :: p => (chk s h p).map (· + 1) | _ => none)
    else none
def chkB (e : Nat) (co : Int) : Option Nat → Bool
  | some n => decide (((e + n : Nat) : Int) = co)
  | none => false
theorem chkB_map (e : Nat) (co : Int) (o : Option Nat) : chkB e co (o.map (· + 1)) = chkB (e + 1) co o := by
  cases o with
  | none => rfl
  | some n => simp only [Option.map_some, chkB]; rw [show e + (n + 1) = e + 1 + n by omega]
theorem chk_ops : ∀ {s h p : List Int} {n : Nat}, chk s h p = some n → Ops h p s n
  | [], h, p, n, e => by
    simp only [chk] at e
    split at e
    next q => cases e; rw [q.1, q.2]; exact .nil
    next q => cases e
  | op :: s, h, p, n, e => by
    simp only [chk] at e
    split at e
    next q =>
      subst q
      cases h with
      | nil => cases e
      | cons x h => cases p with
        | nil => cases e
        | cons y p =>
          simp only at e
          split at e
          next q => subst q; exact .keep x (chk_ops e)
          next q => cases e
    next q =>
      split at e
      next q =>
        subst q
        cases h with
        | nil => cases e
        | cons x h => cases p with
          | nil => cases e
          | cons y p =>
            simp only at e
            split at e
            next q => cases e
            next q =>
              obtain ⟨m, e1, rfl⟩ := Option.map_eq_some_iff.1 e
              exact .other x y q (chk_ops e1)
      next q =>
        split at e
        next q =>
          subst q
          cases h with
          | nil => cases e
          | cons x h =>
            obtain ⟨m, e1, rfl⟩ := Option.map_eq_some_iff.1 e
            exact .extra x (chk_ops e1)
        next q =>
          split at e
          next q =>
            subst q
            cases p with
            | nil => cases e
            | cons y p =>
              obtain ⟨m, e1, rfl⟩ := Option.map_eq_some_iff.1 e
              exact .lost y (chk_ops e1)
          next q => cases e
theorem chk_l0 (ops : List Int) (hl : ops.length ≤ 1000) (it fr tt co : Int) (L : List Int) (d : Nat) : ∀ (k i : Nat) (h p : List Int) (e : Nat), i ≤ ops.length → ops.length - i = d → 4 * d + 1 ≤ k → e + d ≤ 1000000 →
    fingerprint_Check.l0 k h p (e : Int) ops (ops.length : Int) (i : Int) it fr tt co L = some (chkB e co (chk (ops.drop i) h p)) := by
  induction d with
  | zero =>
    intro k i h p e h1 h2 h3 ho
    obtain ⟨k, rfl⟩ : ∃ m, k = m + 1 := ⟨k - 1, by omega⟩
    rw [List.drop_eq_nil_of_le (by omega)]
    simp only [fingerprint_Check.l0, chk]
    rw [if_neg (by omega)]
    cases h with
    | cons x h => rw [if_neg (by simp <;> omega), if_neg (by simp)]; rfl
    | nil => cases p with
      | cons y p => rw [if_pos (by simp), if_neg (by simp <;> omega), if_neg (by simp)]; rfl
      | nil => rw [if_pos (by simp), if_pos (by simp), if_pos ⟨rfl, rfl⟩]; simp [chkB, Bool.beq_eq_decide_eq]
  | succ d ih =>
    intro k i h p e h1 h2 h3 ho
    obtain ⟨k, rfl⟩ : ∃ m, k = m + 4 := ⟨k - 4, by omega⟩
    have hc : i < ops.length := by omega
    have we := wrap_id (x := (e : Int) + 1) (by omega) (by omega)
    rw [List.drop_eq_getElem_cons hc]
    have wi := wrap_up hc (by omega)
    simp only [fingerprint_Check.l0]
    rw [if_pos (by omega), if_pos (by omega), if_pos (by omega), rd_get hc]
    generalize ops[i] = op
    have IH := fun h p e' (q : e' + d ≤ 1000000) => ih (k) (i + 1) h p e' (by omega) (by omega) (by omega) q
    have E1 : ∀ o, some (chkB e co (Option.map (· + 1) o)) = some (chkB (e + 1) co o) := fun o => by rw [chkB_map]
    by_cases o1 : op = 1
    · subst o1
      rw [if_neg (by omega), if_neg (by omega), if_neg (by omega)]
      cases h with
      | nil => rw [show chk (1 :: ops.drop (i + 1)) [] p = none by simp [chk], if_pos (by simp)]; simp only [fingerprint_Check.j2]; rw [if_pos trivial]; rfl
      | cons x h =>
        rw [if_neg (by simp <;> omega), if_neg (by omega)]
        cases p with
        | nil => rw [show chk (1 :: ops.drop (i + 1)) (x :: h) [] = none by simp [chk]]; simp only [fingerprint_Check.j2]; rw [if_pos (by simp)]; rfl
        | cons y p =>
          rw [show chk (1 :: ops.drop (i + 1)) (x :: h) (y :: p) = if x = y then chk (ops.drop (i + 1)) h p else none by simp [chk]]
          simp only [fingerprint_Check.j2, fingerprint_Check.j3, fingerprint_Check.j4]
          rw [if_neg (by simp <;> omega), if_pos (by decide), if_pos (by decide), if_pos (by simp <;> omega), if_pos (by simp <;> omega)]
          by_cases q : x = y
          · subst q
            rw [if_neg (by simp [rd]), if_pos trivial, if_pos (by decide), if_pos (by simp <;> omega), Option.bind_some, if_pos (by decide), if_pos (by simp <;> omega), wi, if_pos rfl]
            exact IH h p e (by omega)
          · rw [if_pos (by simp [rd, q]), if_neg q]; rfl
    by_cases o2 : op = 2
    · subst o2
      rw [if_neg (by omega), if_neg (by omega), if_neg (by omega)]
      cases h with
      | nil => rw [show chk (2 :: ops.drop (i + 1)) [] p = none by simp [chk], if_pos (by simp)]; simp only [fingerprint_Check.j2]; rw [if_pos trivial]; rfl
      | cons x h =>
        rw [if_neg (by simp <;> omega), if_neg (by omega)]
        cases p with
        | nil => rw [show chk (2 :: ops.drop (i + 1)) (x :: h) [] = none by simp [chk]]; simp only [fingerprint_Check.j2]; rw [if_pos (by simp)]; rfl
        | cons y p =>
          rw [show chk (2 :: ops.drop (i + 1)) (x :: h) (y :: p) = if x = y then none else (chk (ops.drop (i + 1)) h p).map (· + 1) by simp [chk]]
          simp only [fingerprint_Check.j2, fingerprint_Check.j3, fingerprint_Check.j4]
          rw [if_neg (by simp <;> omega), if_pos (by decide), if_pos (by decide), if_pos (by simp <;> omega), if_pos (by simp <;> omega)]
          by_cases q : x = y
          · subst q
            rw [if_pos (by simp [rd]), if_pos rfl]; rfl
          · rw [if_neg (by simp [rd, q]), if_neg (by omega), if_pos (by decide), if_pos (by simp <;> omega), Option.bind_some, if_pos (by decide), if_pos (by simp <;> omega), wi, we, if_neg q, E1]
            exact IH h p (e + 1) (by omega)
    by_cases o3 : op = 3
    · subst o3
      rw [if_neg (by omega), if_neg (by omega), if_neg (by omega)]
      cases h with
      | nil => rw [show chk (3 :: ops.drop (i + 1)) [] p = none by simp [chk], if_pos (by simp)]; simp only [fingerprint_Check.j2]; rw [if_pos trivial]; rfl
      | cons x h =>
        rw [if_neg (by simp <;> omega), if_pos rfl, show chk (3 :: ops.drop (i + 1)) (x :: h) p = (chk (ops.drop (i + 1)) h p).map (· + 1) by simp [chk]]
        simp only [fingerprint_Check.j2, fingerprint_Check.j3, fingerprint_Check.j4]
        rw [if_neg (by simp), if_pos (by decide), if_neg (by decide), if_neg (by simp), if_neg (by omega), if_pos (by decide), if_pos (by simp <;> omega), Option.bind_some, if_neg (by decide), wi, we, E1]
        exact IH h p (e + 1) (by omega)
    by_cases o4 : op = 4
    · subst o4
      rw [if_neg (by omega), if_neg (by omega), if_pos rfl, if_neg (by omega)]
      cases p with
      | nil => rw [show chk (4 :: ops.drop (i + 1)) h [] = none by simp [chk]]; simp only [fingerprint_Check.j2]; rw [if_pos (by simp)]; rfl
      | cons y p =>
        rw [show chk (4 :: ops.drop (i + 1)) h (y :: p) = (chk (ops.drop (i + 1)) h p).map (· + 1) by simp [chk]]
        simp only [fingerprint_Check.j2, fingerprint_Check.j3, fingerprint_Check.j4]
        rw [if_neg (by simp <;> omega), if_neg (by decide), if_neg (by simp), if_neg (by omega), if_neg (by decide), if_pos (by decide), if_pos (by simp <;> omega), wi, we, E1]
        exact IH h p (e + 1) (by omega)
    · rw [show chk (op :: ops.drop (i + 1)) h p = none by simp [chk, o1, o2, o3, o4]]
      by_cases q : op < 1
      · rw [if_pos q]; simp only [fingerprint_Check.j2]; rw [if_pos trivial]; rfl
      · rw [if_neg q, if_pos (by omega)]; simp only [fingerprint_Check.j2]; rw [if_pos trivial]; rfl
theorem check_f {h c : List Int} (Hh : Hd h) (Hc : Pr c) (it fr tt co : Int) (ops : List Int) (hl : ops.length ≤ 1000) {k : Nat} (hk : 5000 ≤ k) :
    fingerprint_Check.f k h c it fr tt co ops = some (if 0 ≤ fr ∧ fr ≤ tt ∧ tt ≤ (c.length : Int) then chkB 0 co (chk ops h ((c.take tt.toNat).drop fr.toNat)) else false) := by
  obtain ⟨k, rfl⟩ : ∃ m, k = m + 1 := ⟨k - 1, by omega⟩
  unfold fingerprint_Check.f
  rw [heard_f Hh, Option.bind_some, if_pos rfl, isPrint_f Hc, Option.bind_some, if_pos rfl]
  by_cases q1 : fr < 0
  · rw [if_pos q1, if_neg (by omega)]; simp only [fingerprint_Check.j0]; rfl
  rw [if_neg q1]
  by_cases q2 : fr > tt
  · rw [if_pos q2, if_neg (by omega)]; simp only [fingerprint_Check.j0]; rfl
  rw [if_neg q2]
  simp only [fingerprint_Check.j0]
  by_cases q3 : tt > (c.length : Int)
  · rw [decide_eq_true q3, if_pos rfl, if_neg (by omega)]
  · rw [decide_eq_false q3, if_neg (by simp), if_pos (by omega), if_pos (by omega), if_pos (by omega), if_pos (by omega)]
    have := chk_l0 ops hl it fr tt co ops ops.length k 0 h ((c.take tt.toNat).drop fr.toNat) 0 (by omega) (by omega) (by omega) (by omega)
    rw [List.drop_zero] at this
    exact this
theorem check_true {h c : List Int} {fr tt co : Int} {ops : List Int} (e : (if 0 ≤ fr ∧ fr ≤ tt ∧ tt ≤ (c.length : Int) then chkB 0 co (chk ops h ((c.take tt.toNat).drop fr.toNat)) else false) = true) :
    ∃ (i j n : Nat), fr = i ∧ tt = j ∧ co = n ∧ i ≤ j ∧ j ≤ c.length ∧ Ops h ((c.take j).drop i) ops n := by
  split at e
  next q =>
    cases o : chk ops h ((c.take tt.toNat).drop fr.toNat) with
    | none => rw [o] at e; cases e
    | some n =>
      rw [o] at e
      simp only [chkB, decide_eq_true_eq] at e
      exact ⟨fr.toNat, tt.toNat, n, by omega, by omega, by omega, by omega, by omega, chk_ops o⟩
  next q => cases e
end Go.Proofs.Ytgaepndbfpfniaa.PFB
