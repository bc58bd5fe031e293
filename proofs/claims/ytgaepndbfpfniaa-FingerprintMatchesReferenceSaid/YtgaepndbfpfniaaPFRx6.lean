-- PRINTED by print.py (a twelfth state) out of the translation. Not trusted: Lean checks it.
import Derived.Test.YtgaepndbfpfniaaPFRx0
import Derived.Test.YtgaepndbfpfniaaPFRx4
import Derived.Test.YtgaepndbfpfniaaPFRx5
import Derived.RangeFuncNested
import Derived.RangeFuncBound
import Derived.RangeFuncCalls
import Derived.RangeFuncLeaves
import Derived.RangeFuncBox
import Derived.Shelf.Abstract
import Derived.Shelf.RegionOpen
import Derived.OwnWalkIn
import Derived.TacticsInMore
import Derived.LoopNIn
import Derived.LoopIn
import Derived.OneCell
import Derived.BigQuiet
import Derived.Deep.RegionWith
import Derived.Deep.RegionHeld3
import Derived.Deep.RegionLaw
import Derived.IntWalk
import Derived.Lib.SliceRun
section
namespace Go.Proofs.Ytgaepndbfpfniaa.PFR
open Go.RowKit Go.Proofs.YtgaepndbfpfniaaW.PrintWords Go.Proofs.YtgaepndbfpfniaaW.PrintLast Go.Proofs.YtgaepndbfpfniaaW.PrintMore
attribute [local go_sem] max2_int min2_int max_two min_two max_three min_three max_four min_four   -- for this text's walks alone
set_option linter.unusedVariables false
set_option linter.unusedSimpArgs false

attribute [local go_sem] Oper.semAt_some
open Go.Shelf
-- given by hand: fp5
def fp_lastJ (w : World) (m : Nat) (X : Nat → Prop) (pre : List (List Int)) (W : World) : Prop :=
 Below w.heap.size w W ∧ ¬ X w.heap.size ∧ W.heap[w.heap.size]? = some (.cells #[if pre = [] then .slice none 0 0 else .slice (some ⟨w.heap.size + 1, 0, none⟩) m m] 22 (0, 0))
set_option maxRecDepth 100000 in
set_option maxHeartbeats 1000000 in
theorem fp_last1 (B g m : Nat) (u : Value) (w : World) (h : w.heap[B]? = some (.cells #[u] 22 (0, 0))) :
  Calls Try.prog 58 #[.slice (some ⟨g, 0, none⟩) m m, .pointer (some ⟨B, 0, none⟩)] w fun e w' => e = .returned (.tuple #[]) ∧ w.setCell ⟨B, 0, none⟩ (.slice (some ⟨g, 0, none⟩) m m) = w' := by
 have hc := (blk_cell h 0).trans rfl
 have hf := blk_frozen h 0
 go_enter Try.func58, Try.ntmps58
 go_wp2
 go_end0
 exact ⟨rfl, rfl⟩
theorem fp_lastEach (w : World) (m N : Nat) : fp_Each 58 #[.pointer (some ⟨w.heap.size, 0, none⟩)] m N (w.heap.size + 1) w.heap.size (fp_lastJ w m) where
 enters := fun args W => enters_of Try.func58 (by kernel_rfl) rfl args W
 keep := by
  rintro X pre W W' ⟨h1, h2, h3⟩ hb hk
  exact ⟨h1.trans hb, h2, (hk _ (blk_lt h3) h2).trans h3⟩
 more := by
  rintro X pre W h ⟨h1, h2, h3⟩ hh
  refine ⟨h1, ?_, h3⟩
  rintro (hx | hx)
  ·exact h2 hx
  ·have := blk_lt h3; omega
 call := by
  rintro X pre r W ⟨h1, h2, h3⟩ hX hg hr hm hN hb
  refine (fp_last1 _ _ _ _ W h3).mono ?_
  rintro e w' ⟨rfl, rfl⟩
  refine ⟨rfl, ⟨h1.setCell (p := ⟨w.heap.size, 0, none⟩) (Nat.le_refl _) _, h2, ?_⟩, (Below.refl _ _).setCell (p := ⟨w.heap.size, 0, none⟩) (Nat.le_refl _) _, fun k hk => Below.heap_setCell _ _ _ _ (fun e => h2 (by cases e; exact hk))⟩
  rw [blk_set h3 0 _]
  simp
def fingerprint_last.f (a b : List Int) (free : Bool) : Option (List Int) := if a.length ≤ 1000 then if b.length ≤ 1000 then some (fp_lastP a b free) else none else none
set_option maxRecDepth 100000 in
set_option maxHeartbeats 1000000 in
theorem fp_last (A0 : Option Addr) (c0 : Nat) (l0 : List Int) (A1 : Option Addr) (c1 : Nat) (l1 : List Int) (free : Bool) (w : World) (hr0 : Kd.C (Kd.int .i64) w A0 l0.length l0) (hr1 : Kd.C (Kd.int .i64) w A1 l1.length l1)
  (hl0 : l0.length ≤ 1000) (hl1 : l1.length ≤ 1000) :
  Calls Try.prog 43 #[.slice A0 l0.length c0, .slice A1 l1.length c1, .bool free] w fun e w' => ∃ v0_ : Value, e = .returned v0_ ∧ Kd.R (Kd.int .i64) 3 w' w.heap.size (fun _ => True) v0_ (fp_lastP l0 l1 free) ∧ Below w.heap.size w w' := by
 have hb0 : Below w.heap.size w (w.alloc (.cells #[.slice none 0 0] 22)) := below_alloc (Below.refl _ _) _
 have h := fp_rows 58 #[.pointer (some ⟨w.heap.size, 0, none⟩)] (fp_lastJ w (l1.length + 1)) A0 c0 l0 A1 c1 l1 free w (w.alloc (.cells #[.slice none 0 0] 22)) (by rw [World.size_alloc]; exact fp_lastEach w _ _)
  (fun X pre W hJ => Kd.C_below hr0 hJ.1) (fun X pre W hJ => Kd.C_below hr1 hJ.1) (by simp) ⟨hb0, fun h => h, World.alloc_heap_new _ _⟩ hl0 hl1
 rw [World.size_alloc] at h
 have HB := Aside0.mk hb0
 have H := Aside0.mk h
 have hl := fp_lastP_length l1 free l0
 have HL := Aside0.mk hl
 have hl1' := Aside0.mk hl1
 clear h hr0 hr1 hb0 hl hl0 hl1
 go_enter Try.func43, Try.ntmps43
 go_wp2_with fail
 refine H.out.mono ?_
 rintro e w' ⟨rfl, X, hX, ⟨h1, h2, h3⟩, hrow, hb⟩
 rw [if_neg (by simp [fp_rowsP])] at h3
 have hc := (blk_cell h3 0).trans rfl
 have hf := blk_frozen h3 0
 have h4 := blk_set h3 0 (.slice (some ⟨w.heap.size + 1, 0, none⟩) (l1.length + 1) (l1.length + 1))
 have hc2 := (blk_cell h4 0).trans rfl
 have hrow2 := hrow.far (p := ⟨w.heap.size, 0, none⟩) (by simp) (.slice (some ⟨w.heap.size + 1, 0, none⟩) (l1.length + 1) (l1.length + 1))
 have HROW := Aside0.mk hrow2
 have HB1 := Aside0.mk (h1.setCell (p := ⟨w.heap.size, 0, none⟩) (Nat.le_refl _) (.slice (some ⟨w.heap.size + 1, 0, none⟩) (l1.length + 1) (l1.length + 1)))
 clear h1 h2 h3 h4 hb hrow hrow2 hX HB H
 go_wp2
 exact bodyPost_ret (v := .slice (some ⟨w.heap.size + 1, 0, none⟩) (l1.length + 1) (l1.length + 1)) (by simp [results, Try.f43, go_sem, hc2]) rfl ⟨_, rfl, HROW.out.Rn (fun _ => True) HL.out (by omega) trivial (by have := hl1'.out; omega), HB1.out⟩
theorem fingerprint_last.calls (A0 : Option Addr) (c0 : Nat) (l0 : List Int) (A1 : Option Addr) (c1 : Nat) (l1 : List Int) (a2 : Bool) (r : List Int) (w : World) (hr0 : Kd.C (Kd.int .i64) w A0 l0.length l0) (hc0 : l0.length ≤ c0) (hr1 : Kd.C (Kd.int .i64) w A1 l1.length l1) (hc1 : l1.length ≤ c1) (h : fingerprint_last.f l0 l1 a2 = some r) :
  Calls Try.prog 43 #[.slice A0 l0.length c0, .slice A1 l1.length c1, .bool a2] w fun e w' => ∃ v0_ : Value, e = .returned v0_ ∧ Kd.R (Kd.int .i64) 3 w' w.heap.size (fun _ => True) v0_ r ∧ Below w.heap.size w w' := by
 unfold fingerprint_last.f at h
 by_cases h0 : l0.length ≤ 1000
 ·rw [if_pos h0] at h
  by_cases h1 : l1.length ≤ 1000
  ·rw [if_pos h1] at h
   obtain rfl := Option.some.inj h
   exact fp_last A0 c0 l0 A1 c1 l1 a2 w hr0 hr1 h0 h1
  ·rw [if_neg h1] at h; cases h
 ·rw [if_neg h0] at h; cases h

end Go.Proofs.Ytgaepndbfpfniaa.PFR
end

section
namespace Go.Proofs.Ytgaepndbfpfniaa.PFR
open Go.RowKit Go.Proofs.YtgaepndbfpfniaaW.PrintWords Go.Proofs.YtgaepndbfpfniaaW.PrintLast Go.Proofs.YtgaepndbfpfniaaW.PrintMore
attribute [local go_sem] max2_int min2_int max_two min_two max_three min_three max_four min_four   -- for this text's walks alone
set_option linter.unusedVariables false
set_option linter.unusedSimpArgs false

/-! ### aircheckref36_least: function 46 -/
def aircheckref36_least.l0 : Nat → List Int → Int → Int → Option (Int)
 | 0, _, _, _ => none
 | k + 1, x0, x3, x4 => if x4 < (x0.length : Int) then (if 0 ≤ x4 then (aircheckref36_least.l0 k x0 (mn x3 (rd x0 x4)) (wrap64 (x4 + 1))) else (none)) else (some x3)
def aircheckref36_least.f (k : Nat) (l0 : List Int) : Option (Int) := if 0 < (l0.length : Int) then (aircheckref36_least.l0 k l0 (rd l0 0) 1) else (none)
set_option maxHeartbeats 8000000 in
set_option maxRecDepth 100000 in
theorem aircheckref36_least.calls (k : Nat) (A0 : Option Addr) (c0 : Nat) (l0 : List Int) (r : Int) (w : World) (hr0 : Kd.C (Kd.int .i64) w A0 l0.length l0) (hc0 : l0.length ≤ c0) (h : aircheckref36_least.f k l0 = some r) :
  Calls Try.prog 46 #[.slice A0 l0.length c0] w fun e w' => e = .returned (.int .i64 r) ∧ Below w.heap.size w w' := by
 have HR0 := Aside0.mk hr0
 have HC0 := Aside0.mk hc0
 clear hr0 hc0
 have HB := Aside0.mk (Below.refl w.heap.size w)
 have H : (if 0 < (l0.length : Int) then (aircheckref36_least.l0 k l0 (rd l0 0) 1) else (none)) = some r := h
 clear h
 by_cases c2 : 0 < (l0.length : Int)
 ·rw [if_pos c2] at H
  have c2b0 : decide (0 < (l0.length : Int)) = true := decide_eq_true c2
  have c2b1 : decide (0 < l0.length) = true := decide_eq_true (by omega)
  clear c2
  have H' := Aside0.mk H
  clear H
  have p138 : 0 ≤ (0 : Int) := (by omega)
  have q138 : 0 < (l0.length : Int) := of_decide_eq_true zA
  obtain ⟨ad138, e138, hx138_0⟩ := Kd.at_int HR0.out 0 p138 q138
  cases e138
  have qi138 : (0 < l0.length) = True := eq_true (by omega)
  (try rw [show ((0 : Int)).toNat = 0 from rfl] at hx138_0)
  (try rw [Addr.add_zero'] at hx138_0)
  replace p138 := eq_true p138
  replace q138 := eq_true q138
  go_enter Try.func46, Try.ntmps46
  go_wp2
  go_loopg [3, 4] k (fun kq v3 v4 w' => ∃ (x3_1 : Int) (x4_1 : Int), v3 = .int .i64 x3_1 ∧ v4 = .int .i64 x4_1 ∧ Aside0 (aircheckref36_least.l0 kq l0 x3_1 x4_1 = some r) ∧ Aside0 (kq ≤ k) ∧ Aside0 (Below w.heap.size w w'))
  case atStart => exact ⟨(rd l0 0), (1), zE, zE, H', ⟨Nat.le_refl _⟩, ⟨zW HB.out⟩⟩
  case round =>
   clear H'
   (try clear p1); (try clear q1); (try clear hx1); (try clear qi1); (try clear c2); (try clear c2b0); (try clear c2b1); (try clear p2); (try clear hx138_0); (try clear p138); (try clear q138)
   obtain ⟨x3_1, x4_1, rfl, rfl, HA, HK1, HB⟩ := hrel
   cases gk with
   | zero => exact absurd HA.out (by simp [aircheckref36_least.l0])
   | succ k1 =>
    have H := HA.out
    clear HA
    simp only [aircheckref36_least.l0] at H
    by_cases c3 : x4_1 < (l0.length : Int)
    ·rw [if_pos c3] at H
     have c3b0 : decide (x4_1 < (l0.length : Int)) = true := decide_eq_true c3
     clear c3
     by_cases c4 : 0 ≤ x4_1
     ·rw [if_pos c4] at H
      have c4b0 : decide (0 ≤ x4_1) = true := decide_eq_true c4
      clear c4
      obtain ⟨ji5, hji5⟩ : ∃ j_ : Int, (mn x3_1 (rd l0 x4_1)) = j_ := ⟨_, rfl⟩
      replace H : (aircheckref36_least.l0 k1 l0 ji5 (wrap64 (x4_1 + 1))) = some r := by first | (rw [hji5] at H; exact H) | (simp only [hji5] at H ⊢; exact H)
      have hji5_ : (if (rd l0 x4_1) < x3_1 then (rd l0 x4_1) else x3_1) = ji5 := hji5
      have H' := Aside0.mk H
      clear H
      have p139 : 0 ≤ (x4_1 : Int) := of_decide_eq_true zA
      have q139 : x4_1 < (l0.length : Int) := of_decide_eq_true zA
      obtain ⟨ad139, e139, hx139_0⟩ := Kd.at_int HR0.out x4_1 p139 q139
      obtain rfl : ad138 = ad139 := (by injection e139)
      replace hx139_0 := (HB.out.cell (World.block_lt_of_cell? w _ hx139_0)).trans hx139_0
      replace p139 := eq_true p139
      replace q139 := eq_true q139
      go_wp2
      go_roundg k1
      case measure => have := HK1.out; omega
      case rel => exact ⟨(ji5), (wrap64 (x4_1 + 1)), (by first | rfl | (simp; done) | (simp only [← hji5] <;> (first | rfl | simp)) | (simp [*]; done)), zE, H', ⟨by have := HK1.out; omega⟩, ⟨zW HB.out⟩⟩
     ·rw [if_neg c4] at H
      exact absurd H (by simp)
    ·rw [if_neg c3] at H
     have c3b0 : decide (x4_1 < (l0.length : Int)) = false := decide_eq_false c3
     clear c3
     obtain rfl := Option.some.inj H
     go_wp2
     go_ret
     exact ⟨by first | rfl | (simp [errW_none, errW_some] <;> rfl) | (simp [*, errW_none, errW_some] <;> rfl), zW HB.out⟩
 ·rw [if_neg c2] at H
  exact absurd H (by simp)

/-! ### aircheckref36_differ: function 53 -/
def aircheckref36_differ.f (a0 : Int) (a1 : Int) : Option (Int) := if a0 = a1 then (some 0) else (some 1)
set_option maxHeartbeats 8000000 in
set_option maxRecDepth 100000 in
theorem aircheckref36_differ.calls (a0 : Int) (a1 : Int) (r : Int) (w : World) (h : aircheckref36_differ.f a0 a1 = some r) :
  Calls Try.prog 53 #[.int .i64 a0, .int .i64 a1] w fun e w' => e = .returned (.int .i64 r) ∧ Drawn0 w w' := by
 have H : (if a0 = a1 then (some 0) else (some 1)) = some r := h
 clear h
 by_cases c3 : a0 = a1
 ·rw [if_pos c3] at H
  have c3b0 : (a0 == a1) = true := beq_iff_eq.mpr c3
  have c3b1 : (a0 != a1) = false := bne_eq_false_iff_eq.mpr c3
  clear c3
  obtain rfl := Option.some.inj H
  go_enter Try.func53, Try.ntmps53
  go_wp2
  go_ret
  exact ⟨by first | rfl | (simp; done) | (simp [*]; done), by repeat (first | exact Drawn0.refl _ | apply Drawn0.step)⟩
 ·rw [if_neg c3] at H
  have c3b0 : (a0 == a1) = false := beq_eq_false_iff_ne.mpr c3
  have c3b1 : (a0 != a1) = true := bne_iff_ne.mpr c3
  obtain rfl := Option.some.inj H
  go_enter Try.func53, Try.ntmps53
  go_wp2
  go_ret
  exact ⟨by first | rfl | (simp; done) | (simp [*]; done), by repeat (first | exact Drawn0.refl _ | apply Drawn0.step)⟩

end Go.Proofs.Ytgaepndbfpfniaa.PFR
end
