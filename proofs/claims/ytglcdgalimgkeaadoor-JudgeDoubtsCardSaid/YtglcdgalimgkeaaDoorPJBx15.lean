-- PRINTED by print.py (a twelfth state) out of the translation. Not trusted: Lean checks it.
import Derived.Test.YtglcdgalimgkeaaDoorPJBx0
import Derived.Test.YtglcdgalimgkeaaDoorPJBx6
import Derived.Test.YtglcdgalimgkeaaDoorPJBx9
import Derived.Test.YtglcdgalimgkeaaDoorPJBx10
import Derived.Test.YtglcdgalimgkeaaDoorPJBx11
import Derived.Test.YtglcdgalimgkeaaDoorPJBx14
import Derived.RangeFuncNested
import Derived.RangeFuncBound
import Derived.RangeFuncCalls
import Derived.RangeFuncLeaves
import Derived.RangeFuncBox
import Derived.Shelf.Abstract
import Derived.Shelf.RegionOpen
import Derived.OwnWalkIn
import Derived.TacticsInMore
import Derived.LoopNIn
import Derived.LoopIn
import Derived.OneCell
import Derived.BigQuiet
import Derived.Deep.RegionWith
import Derived.Deep.RegionHeld3
import Derived.Deep.RegionLaw
import Derived.IntWalk
import Derived.Lib.SliceRun
import Derived.Laws.EntriesVeiled
import Derived.Sort.QuietIn
import Derived.Deep.RegionLawGrows
namespace Go.Proofs.YtglcdgalimgkeaaDoor.PJB
open Go.RowKit Go.Proofs.YtglcdgalimgkeaaDoorW.PrintWords Go.Proofs.YtglcdgalimgkeaaDoorW.PrintLast Go.Proofs.YtglcdgalimgkeaaDoorW.PrintMore
attribute [local go_sem] max2_int min2_int max_two min_two max_three min_three max_four min_four   -- for this text's walks alone
set_option linter.unusedVariables false
set_option linter.unusedSimpArgs false

attribute [local go_sem] Oper.semAt_some
open Go.Shelf
-- given by hand: jd3
/-- The span that owns second from_ + i. -/
def jd_K (line : List S74) (from_ : Int) (i : Nat) : Nat := (line.takeWhile (fun s => decide (s.f1 ≤ from_ + i))).length
theorem jd_tw_mono {α : Type} {p q : α → Bool} (h : ∀ x, p x = true → q x = true) : ∀ l : List α, (l.takeWhile p).length ≤ (l.takeWhile q).length
 | [] => Nat.le_refl _
 | x :: l => by
  rw [List.takeWhile_cons, List.takeWhile_cons]
  by_cases hp : p x = true
  ·rw [if_pos hp, if_pos (h x hp)]
   exact Nat.succ_le_succ (jd_tw_mono h l)
  ·rw [if_neg hp]
   exact Nat.zero_le _
theorem jd_tw_at {α : Type} {p : α → Bool} : ∀ (l : List α) (j : Nat) (x : α), j < (l.takeWhile p).length → l[j]? = some x → p x = true
 | y :: l, j, x, hj, hx => by
  rw [List.takeWhile_cons] at hj
  by_cases hp : p y = true
  ·rw [if_pos hp] at hj
   cases j with
   | zero => simp at hx; subst hx; exact hp
   | succ j => exact jd_tw_at l j x (by simpa using hj) (by simpa using hx)
  ·rw [if_neg hp] at hj
   simp at hj
theorem jd_tw_end {α : Type} {p : α → Bool} : ∀ (l : List α) (x : α), l[(l.takeWhile p).length]? = some x → p x = false
 | y :: l, x, hx => by
  rw [List.takeWhile_cons] at hx
  by_cases hp : p y = true
  ·rw [if_pos hp] at hx
   exact jd_tw_end l x (by simpa using hx)
  ·rw [if_neg hp] at hx
   simp at hx
   subst hx
   simpa using hp
theorem jd_tw_lt {α : Type} {p : α → Bool} : ∀ (l : List α) (z : α), l.getLast? = some z → p z = false → (l.takeWhile p).length < l.length
 | [], z, h, _ => by simp at h
 | y :: l, z, h, hz => by
  rw [List.takeWhile_cons]
  by_cases hp : p y = true
  ·rw [if_pos hp]
   cases l with
   | nil => simp at h; subst h; rw [hp] at hz; cases hz
   | cons y' l' => exact Nat.succ_lt_succ (jd_tw_lt (y' :: l') z (by simpa using h) hz)
  ·rw [if_neg hp]
   simp
theorem jd_tw_le {α : Type} (p : α → Bool) : ∀ l : List α, (l.takeWhile p).length ≤ l.length
 | [] => Nat.le_refl _
 | x :: l => by
  rw [List.takeWhile_cons]
  split
  ·exact Nat.succ_le_succ (jd_tw_le p l)
  ·exact Nat.zero_le _
theorem jd_rd {l : List S74} {j : Nat} (h : j < l.length) : l[j]? = some (rd_T74 l (j : Int)) := by
 unfold rd_T74
 simp [List.getD_eq_getElem?_getD, List.getElem?_eq_getElem h]
theorem jd_K2 {line : List S74} {from_ : Int} {i j : Nat} (hj : j < jd_K line from_ i) : (rd_T74 line (j : Int)).f1 ≤ from_ + i := by
 have hl : j < line.length := Nat.lt_of_lt_of_le hj (jd_tw_le _ _)
 simpa using jd_tw_at line j _ hj (jd_rd hl)
theorem jd_K3 {line : List S74} {from_ : Int} {i : Nat} (h : jd_K line from_ i < line.length) : ¬ (rd_T74 line (jd_K line from_ i : Int)).f1 ≤ from_ + i := by
 have h1 := jd_tw_end (p := fun s : S74 => decide (s.f1 ≤ from_ + i)) line (rd_T74 line (jd_K line from_ i : Int)) (jd_rd h)
 exact of_decide_eq_false h1
theorem jd_K4 (line : List S74) (from_ : Int) (i : Nat) : jd_K line from_ i ≤ jd_K line from_ (i + 1) := by
 refine jd_tw_mono (fun x hx => ?_) line
 simp at hx ⊢
 omega
theorem jd_K1 {line : List S74} {from_ : Int} {i : Nat} (h : from_ + i < tl_tend line) (h0 : 0 ≤ from_) : jd_K line from_ i < line.length := by
 unfold tl_tend at h
 cases hl : line.getLast? with
 | none => rw [hl] at h; simp at h; omega
 | some z =>
  rw [hl] at h
  refine jd_tw_lt line z hl ?_
  simp at h ⊢
  exact h
theorem jd_up {α : Type} {f : Nat → Option α} (h : ∀ k, LeO (f k) (f (k + 1))) {k : Nat} {r : α} (hk : f k = some r) : ∀ d, f (k + d) = some r
 | 0 => hk
 | d + 1 => h (k + d) r (jd_up h hk d)
theorem jd_valid_b {k : Nat} {l : List S74} {r : Bool} (hn : l.length ≤ 9223372036854775807) (h : timeline_Valid.f k l = some r) : r = tl_validB l := by
 have h1 := jd_up (fun k => timeline_Valid.mono l k) h (l.length + 1)
 rw [tl_valid_f l hn (by omega)] at h1
 exact (Option.some.inj h1).symm
theorem jd_end_b {k : Nat} {l : List S74} {e : Int} (hn : l.length ≤ 9223372036854775807) (hv : tl_validB l = true) (h : timeline_End.f k l = some e) : e = tl_tend l := by
 unfold timeline_End.f at h
 obtain ⟨v, h1, h⟩ := Option.bind_eq_some_iff.1 h
 obtain rfl := jd_valid_b hn h1
 rw [if_pos hv] at h
 obtain ⟨x, h2, h⟩ := Option.bind_eq_some_iff.1 h
 rw [tl_end_f l hn] at h2
 rw [← Option.some.inj h, ← Option.some.inj h2]
theorem jd_vv_len0 : ∀ (k : Nat) (x0 x5 : List S54) (x6 x7 : Int), heard_ValidVerdicts.l0 k x0 x5 x6 x7 = some true → x0.length ≤ 200
 | 0, _, _, _, _, h => by simp [heard_ValidVerdicts.l0] at h
 | k + 1, x0, x5, x6, x7, h => by
  unfold heard_ValidVerdicts.l0 at h
  repeat' split at h
  all_goals first | (cases h; done) | exact jd_vv_len0 k x0 x5 x6 _ h | (have h1 := Option.some.inj h; simp at h1; omega)
theorem jd_vv_len {k : Nat} {a : List S54} (h : heard_ValidVerdicts.f k a = some true) : a.length ≤ 200 := jd_vv_len0 k a a _ _ h
theorem jd_last : ∀ (l : List S74) (t o : Int) (z : S74), tl_validF l t o = true → l.getLast? = some z → t < z.f1 ∧ z.f1 ≤ 10000000
 | [], _, _, _, _, h => by simp at h
 | [s], t, o, z, hv, h => by
  simp at h
  subst h
  simp [tl_validF] at hv
  omega
 | s :: s' :: l, t, o, z, hv, h => by
  have h1 : tl_validF (s' :: l) s.f1 s.f2 = true ∧ t < s.f1 := by
   rw [tl_validF] at hv
   simp only [Bool.and_eq_true, decide_eq_true_eq] at hv
   exact ⟨hv.2, hv.1.1.1.1.1.2⟩
  have h2 := jd_last (s' :: l) s.f1 s.f2 z h1.1 (by simpa using h)
  exact ⟨by have := h1.2; omega, h2.2⟩
theorem jd_tend_le {l : List S74} (hv : tl_validB l = true) : 0 ≤ tl_tend l ∧ tl_tend l ≤ 10000000 := by
 unfold tl_tend
 cases h : l.getLast? with
 | none => simp
 | some z =>
  unfold tl_validB at hv
  have h1 := jd_last l 0 (-1) z (by simp at hv; exact hv.1) h
  exact ⟨by have := h1.1; simp; omega, h1.2⟩
structure JdOk (line : List S74) (from_ : Int) (a b : List S54) : Prop where
 v : tl_validB line = true
 ab : a.length = b.length
 la : a.length ≤ 200
 ll : line.length ≤ 200
 f0 : 0 ≤ from_
 f1 : from_ + a.length ≤ tl_tend line
 f2 : tl_tend line ≤ 10000000
theorem jd_ok {k : Nat} {line : List S74} {from_ : Int} {a b : List S54} (hn : line.length ≤ 9223372036854775807) (h : judge_evidence_valid.f k line from_ a b = some true) : JdOk line from_ a b := by
 unfold judge_evidence_valid.f at h
 obtain ⟨v, h1, h⟩ := Option.bind_eq_some_iff.1 h
 obtain rfl := jd_valid_b hn h1
 by_cases hv : tl_validB line = true
 ·rw [if_pos hv] at h
  obtain ⟨va, h2, h⟩ := Option.bind_eq_some_iff.1 h
  cases va with
  | false => simp at h
  | true =>
   rw [if_pos rfl] at h
   obtain ⟨vb, h3, h⟩ := Option.bind_eq_some_iff.1 h
   cases vb with
   | false => simp at h
   | true =>
    rw [if_pos rfl] at h
    by_cases hab : (a.length : Int) = (b.length : Int)
    ·rw [if_pos hab] at h
     by_cases hf : from_ ≥ 0
     ·rw [if_pos hf] at h
      obtain ⟨e, h4, h⟩ := Option.bind_eq_some_iff.1 h
      obtain rfl := jd_end_b hn hv h4
      have h5 := of_decide_eq_true (Option.some.inj h)
      have hla := jd_vv_len h2
      have ht := jd_tend_le hv
      have hl : line.length ≤ 200 := by unfold tl_validB at hv; simp at hv; exact hv.2
      rw [jd_w (by have := ht.1; have := ht.2; omega) (by have := ht.1; have := ht.2; omega)] at h5
      exact ⟨hv, by omega, hla, hl, hf, by omega, ht.2⟩
     ·rw [if_neg hf] at h; cases h
    ·rw [if_neg hab] at h; cases h
 ·rw [if_neg hv] at h; cases h

end Go.Proofs.YtglcdgalimgkeaaDoor.PJB
