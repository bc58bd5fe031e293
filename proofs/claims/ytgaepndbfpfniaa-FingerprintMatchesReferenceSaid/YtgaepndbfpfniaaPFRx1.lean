-- PRINTED by print.py (a twelfth state) out of the translation. Not trusted: Lean checks it.
import Derived.Test.YtgaepndbfpfniaaPFRx0
import Derived.RangeFuncNested
import Derived.RangeFuncBound
import Derived.RangeFuncCalls
import Derived.RangeFuncLeaves
import Derived.RangeFuncBox
import Derived.Shelf.Abstract
import Derived.Shelf.RegionOpen
import Derived.OwnWalkIn
import Derived.TacticsInMore
import Derived.LoopNIn
import Derived.LoopIn
import Derived.OneCell
import Derived.BigQuiet
import Derived.Deep.RegionWith
import Derived.Deep.RegionHeld3
import Derived.Deep.RegionLaw
import Derived.IntWalk
import Derived.Lib.SliceRun
namespace Go.Proofs.Ytgaepndbfpfniaa.PFR
open Go.RowKit Go.Proofs.YtgaepndbfpfniaaW.PrintWords Go.Proofs.YtgaepndbfpfniaaW.PrintLast Go.Proofs.YtgaepndbfpfniaaW.PrintMore
attribute [local go_sem] max2_int min2_int max_two min_two max_three min_three max_four min_four   -- for this text's walks alone
set_option linter.unusedVariables false
set_option linter.unusedSimpArgs false

attribute [local go_sem] Oper.semAt_some
open Go.Shelf
-- given by hand: fp1
def fp_badB (low c : Int) : Bool := decide (c < low) || decide (255 < c)
def fp_ixF (low : Int) : List Int → Int → Int
 | [], _ => -1
 | x :: l, i => if fp_badB low x = true then i else fp_ixF low l (i + 1)
theorem fp_ix_yes {low x i : Int} {l : List Int} (h : fp_badB low x = true) : fp_ixF low (x :: l) i = i := by simp [fp_ixF, h]
theorem fp_ix_no {low x i : Int} {l : List Int} (h : fp_badB low x = false) : fp_ixF low (x :: l) i = fp_ixF low l (i + 1) := by simp [fp_ixF, h]
set_option maxRecDepth 100000 in
set_option maxHeartbeats 1000000 in
theorem fp_bad (B : Nat) (c low : Int) (w : World) (hc : w.cell? ⟨B, 0, none⟩ = some (.int .i64 low)) :
  Calls Try.prog 57 #[.int .i64 c, .pointer (some ⟨B, 0, none⟩)] w fun e w' => e = .returned (.bool (fp_badB low c)) ∧ w = w' := by
 unfold fp_badB
 by_cases h : c < low
 ·have d : decide (c < low) = true := decide_eq_true h
  rw [d]
  go_enter Try.func57, Try.ntmps57
  go_wp2
  go_ret
  exact ⟨rfl, rfl⟩
 ·have d : decide (c < low) = false := decide_eq_false h
  rw [d]
  go_enter Try.func57, Try.ntmps57
  go_wp2
  go_ret
  exact ⟨rfl, rfl⟩
theorem fp_rd {l : List Int} {k : Nat} (h : k < l.length) : l.drop k = rd l (k : Int) :: l.drop (k + 1) := by
 rw [List.drop_eq_getElem_cons h]
 simp [rd, h]
set_option maxRecDepth 100000 in
set_option maxHeartbeats 1000000 in
theorem fp_index (B : Nat) (low : Int) (A : Option Addr) (cap : Nat) (l : List Int) (w : World) (hc : w.cell? ⟨B, 0, none⟩ = some (.int .i64 low)) (hr : Kd.C (Kd.int .i64) w A l.length l) :
  Calls Try.prog 62 #[.slice A l.length cap, .func (.func 57) #[] #[.pointer (some ⟨B, 0, none⟩)]] w fun e w' => e = .returned (.int .i64 (fp_ixF low l 0)) ∧ w = w' := by
 have hn := hr.2.1
 have HR := Aside0.mk hr
 have HC := Aside0.mk hc
 clear hr hc
 go_enter Try.func62, Try.ntmps62
 go_wp2
 go_loop [8] (fun i => ∃ k : Nat, k ≤ l.length ∧ i = .int .i64 k ∧ Aside0 (fp_ixF low l 0 = fp_ixF low (l.drop k) k)) (fun i => l.length - (intOf i).toNat)
 case atStart => exact ⟨0, Nat.zero_le _, rfl, ⟨rfl⟩⟩
 case round =>
  obtain ⟨k, hk, rfl, HE⟩ := hrel
  by_cases hlt : k < l.length
  ·have hk1 : (k : Int) < l.length := by omega
   have hk2 : (0 : Int) ≤ k := by omega
   obtain ⟨ad, rfl, hx⟩ := Kd.at_int HR.out (k : Int) hk2 hk1
   have hstep := fp_rd hlt
   obtain ⟨x, hx'⟩ : ∃ x, rd l ↑k = x := ⟨_, rfl⟩
   rw [hx'] at hx hstep
   rw [Int.toNat_natCast] at hx
   have HS := Aside0.mk hstep
   clear hx' hstep
   by_cases hb : fp_badB low x = true
   ·go_wp2_with (go_at_call 57; refine (fp_bad B x low w HC.out).mono ?_; rw [hb]; rintro e w' ⟨rfl, rfl⟩)
    go_ret
    refine ⟨?_, rfl⟩
    rw [HE.out, HS.out, fp_ix_yes hb]
    rfl
   ·have hb' : fp_badB low x = false := by simpa using hb
    go_wp2_with (go_at_call 57; refine (fp_bad B x low w HC.out).mono ?_; rw [hb']; rintro e w' ⟨rfl, rfl⟩)
    go_round
    case rel => exact ⟨k + 1, by omega, by go_num, ⟨by rw [HE.out, HS.out, fp_ix_no hb']; rfl⟩⟩
    case measure => simp [intOf]; omega
  ·go_wp2
   go_ret
   refine ⟨?_, rfl⟩
   rw [HE.out, List.drop_eq_nil_of_le (by omega)]
   rfl

theorem fp_ix_iff (low : Int) : ∀ (l : List Int) (i : Int), 0 ≤ i → (0 ≤ fp_ixF low l i ↔ ∃ x ∈ l, fp_badB low x = true)
 | [], i, _ => by simp [fp_ixF]
 | x :: l, i, h => by
  by_cases hb : fp_badB low x = true
  ·rw [fp_ix_yes hb]; simp [hb, h]
  ·have hb' : fp_badB low x = false := by simpa using hb
   rw [fp_ix_no hb', fp_ix_iff low l (i + 1) (by omega)]
   simp [hb']
def fp_codesB (low : Int) (l : List Int) : Bool := !l.any (fp_badB low)
set_option maxRecDepth 100000 in
set_option maxHeartbeats 1000000 in
theorem fp_contains (B : Nat) (low : Int) (A : Option Addr) (cap : Nat) (l : List Int) (w : World) (hc : w.cell? ⟨B, 0, none⟩ = some (.int .i64 low)) (hr : Kd.C (Kd.int .i64) w A l.length l) :
  Calls Try.prog 56 #[.slice A l.length cap, .func (.func 57) #[] #[.pointer (some ⟨B, 0, none⟩)]] w fun e w' => e = .returned (.bool (l.any (fp_badB low))) ∧ w = w' := by
 have hiff := fp_ix_iff low l 0 (Int.le_refl _)
 have E := Aside0.mk (show decide (0 ≤ fp_ixF low l 0) = l.any (fp_badB low) by rw [Bool.eq_iff_iff, decide_eq_true_eq, hiff]; simp)
 clear hiff
 go_enter Try.func56, Try.ntmps56
 go_wp2_with (go_at_call 62; refine (fp_index B low A cap l w hc hr).mono ?_; rintro e w' ⟨rfl, rfl⟩)
 go_ret
 exact ⟨by rw [← E.out]; rfl, rfl⟩
set_option maxRecDepth 100000 in
set_option maxHeartbeats 1000000 in
theorem fp_codes1 (B : Nat) (low : Int) (A : Option Addr) (cap : Nat) (l : List Int) (w : World) (hc : w.cell? ⟨B, 0, none⟩ = some (.int .i64 low)) (hr : Kd.C (Kd.int .i64) w A l.length l) :
  Calls Try.prog 55 #[.slice A l.length cap, .pointer (some ⟨B, 0, none⟩)] w fun e w' => e = .returned (.bool (fp_codesB low l)) ∧ w = w' := by
 unfold fp_codesB
 go_enter Try.func55, Try.ntmps55
 go_wp2_with (go_at_call 56; refine (fp_contains B low A cap l w hc hr).mono ?_; rintro e w' ⟨rfl, rfl⟩)
 go_ret
 exact ⟨rfl, rfl⟩
set_option maxRecDepth 100000 in
set_option maxHeartbeats 1000000 in
theorem fp_codes (low : Int) (w : World) :
  Calls Try.prog 39 #[.int .i64 low] w fun e w' => e = .returned (.func (.func 55) #[] #[.pointer (some ⟨w.heap.size, 0, none⟩)]) ∧ w.alloc (.cells #[.int .i64 low] 3) = w' := by
 go_enter Try.func39, Try.ntmps39
 go_wp2
 go_ret
 exact ⟨rfl, rfl⟩
def fingerprint_Heard.f (l0 : List Int) : Option Bool := some (decide ((l0.length : Int) ≤ 60) && fp_codesB (-1) l0)
set_option maxRecDepth 100000 in
set_option maxHeartbeats 1000000 in
theorem fp_heard (A0 : Option Addr) (c0 : Nat) (l0 : List Int) (w : World) (hr0 : Kd.C (Kd.int .i64) w A0 l0.length l0) :
  Calls Try.prog 15 #[.slice A0 l0.length c0] w fun e w' => e = .returned (.bool (decide ((l0.length : Int) ≤ 60) && fp_codesB (-1) l0)) ∧ Below w.heap.size w w' := by
 by_cases h : (l0.length : Int) ≤ 60
 ·have d : decide ((l0.length : Int) ≤ 60) = true := decide_eq_true h
  have d2 : decide (l0.length ≤ 60) = true := decide_eq_true (by omega)
  have HB := below_alloc (Below.refl w.heap.size w) (.cells #[.int .i64 (-1)] 3)
  have hr := Kd.C_below hr0 HB
  have hc : (w.alloc (.cells #[.int .i64 (-1)] 3)).cell? ⟨w.heap.size, 0, none⟩ = some (.int .i64 (-1)) := (blk_cell (World.alloc_heap_new _ _) 0).trans rfl
  have HR := Aside0.mk hr
  have HC := Aside0.mk hc
  have HBB := Aside0.mk HB
  clear hr hc HB hr0 h
  rw [d, Bool.true_and]
  go_enter Try.func15, Try.ntmps15
  go_wp2_with (first | (go_at_call 39; refine (fp_codes _ _).mono ?_; rintro e w' ⟨rfl, rfl⟩) | (go_at_call 55; refine (fp_codes1 _ _ _ _ _ _ HC.out HR.out).mono ?_; rintro e w' ⟨rfl, rfl⟩))
  go_ret
  exact ⟨rfl, HBB.out⟩
 ·have d : decide ((l0.length : Int) ≤ 60) = false := decide_eq_false h
  have d2 : decide (l0.length ≤ 60) = false := decide_eq_false (by omega)
  clear hr0 h
  rw [d, Bool.false_and]
  go_enter Try.func15, Try.ntmps15
  go_wp2
  go_ret
  exact ⟨rfl, Below.refl _ _⟩
theorem fingerprint_Heard.calls (A0 : Option Addr) (c0 : Nat) (l0 : List Int) (r : Bool) (w : World) (hr0 : Kd.C (Kd.int .i64) w A0 l0.length l0) (hc0 : l0.length ≤ c0) (h : fingerprint_Heard.f l0 = some r) :
  Calls Try.prog 15 #[.slice A0 l0.length c0] w fun e w' => e = .returned (.bool r) ∧ Below w.heap.size w w' := by
 obtain rfl := Option.some.inj h
 exact fp_heard A0 c0 l0 w hr0
def fingerprint_isPrint.f (l0 : List Int) : Option Bool := some (decide (1 ≤ (l0.length : Int)) && decide ((l0.length : Int) ≤ 60) && fp_codesB 0 l0)
set_option maxRecDepth 100000 in
set_option maxHeartbeats 1000000 in
theorem fp_isPrint (A0 : Option Addr) (c0 : Nat) (l0 : List Int) (w : World) (hr0 : Kd.C (Kd.int .i64) w A0 l0.length l0) :
  Calls Try.prog 41 #[.slice A0 l0.length c0] w fun e w' => e = .returned (.bool (decide (1 ≤ (l0.length : Int)) && decide ((l0.length : Int) ≤ 60) && fp_codesB 0 l0)) ∧ Below w.heap.size w w' := by
 by_cases g : 1 ≤ (l0.length : Int)
 ·have x : decide (1 ≤ (l0.length : Int)) = true := decide_eq_true g
  have x2 : decide (1 ≤ l0.length) = true := decide_eq_true (by omega)
  rw [x, Bool.true_and]
  by_cases h : (l0.length : Int) ≤ 60
  ·have d : decide ((l0.length : Int) ≤ 60) = true := decide_eq_true h
   have d2 : decide (l0.length ≤ 60) = true := decide_eq_true (by omega)
   have HB := below_alloc (Below.refl w.heap.size w) (.cells #[.int .i64 0] 3)
   have hr := Kd.C_below hr0 HB
   have hc : (w.alloc (.cells #[.int .i64 0] 3)).cell? ⟨w.heap.size, 0, none⟩ = some (.int .i64 0) := (blk_cell (World.alloc_heap_new _ _) 0).trans rfl
   have HR := Aside0.mk hr
   have HC := Aside0.mk hc
   have HBB := Aside0.mk HB
   clear hr hc HB hr0 h g
   rw [d, Bool.true_and]
   go_enter Try.func41, Try.ntmps41
   go_wp2_with (first | (go_at_call 39; refine (fp_codes _ _).mono ?_; rintro e w' ⟨rfl, rfl⟩) | (go_at_call 55; refine (fp_codes1 _ _ _ _ _ _ HC.out HR.out).mono ?_; rintro e w' ⟨rfl, rfl⟩))
   go_ret
   exact ⟨rfl, HBB.out⟩
  ·have d : decide ((l0.length : Int) ≤ 60) = false := decide_eq_false h
   have d2 : decide (l0.length ≤ 60) = false := decide_eq_false (by omega)
   clear hr0 h g
   rw [d, Bool.false_and]
   go_enter Try.func41, Try.ntmps41
   go_wp2
   go_ret
   exact ⟨rfl, Below.refl _ _⟩
 ·have x : decide (1 ≤ (l0.length : Int)) = false := decide_eq_false g
  have x2 : decide (1 ≤ l0.length) = false := decide_eq_false (by omega)
  rw [x, Bool.false_and, Bool.false_and]
  clear hr0 g
  go_enter Try.func41, Try.ntmps41
  go_wp2
  go_ret
  exact ⟨rfl, Below.refl _ _⟩
theorem fingerprint_isPrint.calls (A0 : Option Addr) (c0 : Nat) (l0 : List Int) (r : Bool) (w : World) (hr0 : Kd.C (Kd.int .i64) w A0 l0.length l0) (hc0 : l0.length ≤ c0) (h : fingerprint_isPrint.f l0 = some r) :
  Calls Try.prog 41 #[.slice A0 l0.length c0] w fun e w' => e = .returned (.bool r) ∧ Below w.heap.size w w' := by
 obtain rfl := Option.some.inj h
 exact fp_isPrint A0 c0 l0 w hr0

end Go.Proofs.Ytgaepndbfpfniaa.PFR
