-- PRINTED by print.py (a twelfth state) out of the translation. Not trusted: Lean checks it.
import Derived.Test.YtgaepndbfpfniaaPFBx0
import Derived.Test.YtgaepndbfpfniaaPFBx7
import Derived.Test.YtgaepndbfpfniaaPFBx17
import Derived.Test.YtgaepndbfpfniaaPFBx21
import Derived.Test.YtgaepndbfpfniaaPFBx26
import Derived.RangeFuncNested
import Derived.RangeFuncBound
import Derived.RangeFuncCalls
import Derived.RangeFuncLeaves
import Derived.RangeFuncBox
import Derived.Shelf.Abstract
import Derived.Shelf.RegionOpen
import Derived.OwnWalkIn
import Derived.TacticsInMore
import Derived.LoopNIn
import Derived.LoopIn
import Derived.OneCell
import Derived.BigQuiet
import Derived.Deep.RegionWith
import Derived.Deep.RegionHeld3
import Derived.Deep.RegionLaw
import Derived.IntWalk
import Derived.Lib.SliceRun
namespace Go.Proofs.Ytgaepndbfpfniaa.PFB
open Go.RowKit Go.Proofs.YtgaepndbfpfniaaW.PrintWords Go.Proofs.YtgaepndbfpfniaaW.PrintLast Go.Proofs.YtgaepndbfpfniaaW.PrintMore
attribute [local go_sem] max2_int min2_int max_two min_two max_three min_three max_four min_four   -- for this text's walks alone
set_option linter.unusedVariables false
set_option linter.unusedSimpArgs false

attribute [local go_sem] Oper.semAt_some
open Go.Shelf
def fp_hloop (part : List Int) (it k : Int) : List S34 → Option Bool
  | [] => some false
  | p :: P => (fingerprint_Cost.f 100000 part p.f1).bind fun c => if c.2 = 0 then (if p.f0 ≠ it ∧ c.1 ≤ 2 * k then some true else fp_hloop part it k P) else none
def fp_hears2 (P : List S34) (hs : List Int) (n it : Int) : Option Bool :=
  (fingerprint_Best.f 100000 P hs).bind fun b =>
  if b.2.2.2.2.2.2 = 0 ∧ b.1 = it ∧ b.2.2.2.1 ≤ n ∧ (P.length = 1 ∧ b.2.2.2.2.2.1 = -1 ∨ 1 < P.length ∧ n < b.2.2.2.2.2.1) then some true else none
def stop_airchecklaw36_FingerprintHears (P : List S34) (it : Int) (codes : List Int) (a to_ : Int) (errs : List S29) : Option Bool :=
  (airchecklaw36_pick.f to_ ((codes.length : Int) - a)).bind fun t =>
  if 0 ≤ a ∧ 0 ≤ t ∧ a + 1 + t ≤ (codes.length : Int) ∧ codes.length ≤ 1000 ∧ P.length ≤ 1000 then
  (aircheckref36_Spoiled.f ((codes.take (a + 1 + t).toNat).drop a.toNat) errs).bind fun hk =>
  if 0 ≤ hk.2 ∧ hk.2 ≤ 1000 then
  (fp_hloop ((codes.take (a + 1 + t).toNat).drop a.toNat) it hk.2 P).bind fun q =>
  if q = true then some true else fp_hears2 P hk.1 hk.2 it
  else none else none
theorem stop_hears_inv {P : List S34} {it : Int} {codes : List Int} {a to_ : Int} {errs : List S29} {r : Bool} (h : stop_airchecklaw36_FingerprintHears P it codes a to_ errs = some r) :
    ∃ (t : Int) (hs : List Int) (kk : Int) (q : Bool), airchecklaw36_pick.f to_ ((codes.length : Int) - a) = some t ∧ (0 ≤ a ∧ 0 ≤ t ∧ a + 1 + t ≤ (codes.length : Int) ∧ codes.length ≤ 1000 ∧ P.length ≤ 1000) ∧
      aircheckref36_Spoiled.f ((codes.take (a + 1 + t).toNat).drop a.toNat) errs = some (hs, kk) ∧ (0 ≤ kk ∧ kk ≤ 1000) ∧ fp_hloop ((codes.take (a + 1 + t).toNat).drop a.toNat) it kk P = some q ∧
      (q = true ∨ q = false ∧ ∃ (b1 b2 b3 b4 : Int) (b5 : List Int) (b6 : Int), fingerprint_Best.f 100000 P hs = some (b1, b2, b3, b4, b5, b6, 0) ∧ b1 = it ∧ b4 ≤ kk ∧ (P.length = 1 ∧ b6 = -1 ∨ 1 < P.length ∧ kk < b6)) ∧ r = true := by
  unfold stop_airchecklaw36_FingerprintHears at h
  obtain ⟨t, e1, h⟩ := Option.bind_eq_some_iff.1 h
  split at h
  next c1 =>
    obtain ⟨⟨hs, kk⟩, e2, h⟩ := Option.bind_eq_some_iff.1 h
    split at h
    next c2 =>
      obtain ⟨q, e3, h⟩ := Option.bind_eq_some_iff.1 h
      split at h
      next c3 => exact ⟨t, hs, kk, q, e1, c1, e2, c2, e3, .inl c3, (Option.some.inj h).symm⟩
      next c3 =>
        unfold fp_hears2 at h
        obtain ⟨⟨b1, b2, b3, b4, b5, b6, b7⟩, e4, h⟩ := Option.bind_eq_some_iff.1 h
        split at h
        next c4 =>
          obtain ⟨d1, d2, d3, d4⟩ := c4
          have d1 : b7 = 0 := d1
          subst d1
          exact ⟨t, hs, kk, q, e1, c1, e2, c2, e3, .inr ⟨by simpa using c3, b1, b2, b3, b4, b5, b6, e4, d2, d3, d4⟩, (Option.some.inj h).symm⟩
        next c4 => cases h
    next c2 => cases h
  next c1 => cases h
theorem hears_cut (A : Option Addr) (n c a b m : Nat) (hab : a ≤ b) (hbn : b ≤ n) (hc : n ≤ c) (hm : b - a = m) : ∀ W, (Instr.slice 22 (.slice A n c) (some (.int .i64 (a : Int))) (some (.int .i64 (b : Int))) none).run Try.prog W = .ok (.slice (if c = a then A else A.map (·.add (a * 1))) m (c - a)) W := by
  obtain ⟨i0, hi0, _, hs, _⟩ := info_parts info3
  subst hm
  have := cut_mid (P := Try.prog) 22 3 .i64 .i64 Try.underlying22 hi0 1 hs A n c (a : Int) (b : Int) (by omega) (by omega) (by omega) hc
  simpa only [Int.toNat_natCast] using this
theorem hears_C {W : World} {A : Option Addr} {xs : List Int} {c a b : Nat} (h : Kd.C (Kd.int .i64) W A xs.length xs) (hab : a ≤ b) (hb : b ≤ xs.length) (hc : xs.length ≤ c) : Kd.C (Kd.int .i64) W (if c = a then A else A.map (·.add (a * 1))) ((xs.take b).drop a).length ((xs.take b).drop a) :=
  Kd.C_drop (c := c) (Kd.C_take h hb) (by rw [List.length_take]; omega) (by rw [List.length_take]; omega)
theorem hloop_step {part : List Int} {it k : Int} {P : List S34} {j : Nat} (hj : j < P.length) {q : Bool} (h : fp_hloop part it k (P.drop j) = some q) :
    ∃ n, fingerprint_Cost.f 100000 part (rd_T34 P (j : Int)).f1 = some (n, 0) ∧ (((rd_T34 P (j : Int)).f0 ≠ it ∧ n ≤ 2 * k) ∧ q = true ∨ ¬ ((rd_T34 P (j : Int)).f0 ≠ it ∧ n ≤ 2 * k) ∧ fp_hloop part it k (P.drop (j + 1)) = some q) := by
  rw [List.drop_eq_getElem_cons hj] at h
  simp only [fp_hloop] at h
  obtain ⟨⟨n, n2⟩, e, h⟩ := Option.bind_eq_some_iff.1 h
  split at h
  next c =>
    have c : n2 = 0 := c
    subst c
    have er : rd_T34 P (j : Int) = P[j] := by simp [rd_T34, hj]
    rw [er]
    refine ⟨n, e, ?_⟩
    split at h
    next d => exact .inl ⟨d, (Option.some.inj h).symm⟩
    next d => exact .inr ⟨d, h⟩
  next c => cases h

end Go.Proofs.Ytgaepndbfpfniaa.PFB
