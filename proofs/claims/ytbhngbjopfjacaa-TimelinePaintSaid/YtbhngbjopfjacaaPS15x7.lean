-- PRINTED by print.py (a twelfth state) out of the translation. Not trusted: Lean checks it.
import Derived.Test.YtbhngbjopfjacaaPS15x0
import Derived.Test.YtbhngbjopfjacaaPS15x3
import Derived.Test.YtbhngbjopfjacaaPS15x4
import Derived.Test.YtbhngbjopfjacaaPS15x5
import Derived.Test.YtbhngbjopfjacaaPS15x6
import Derived.RangeFuncNested
import Derived.RangeFuncBound
import Derived.RangeFuncCalls
import Derived.RangeFuncLeaves
import Derived.RangeFuncBox
import Derived.Shelf.Abstract
import Derived.Shelf.RegionOpen
import Derived.OwnWalkIn
import Derived.TacticsInMore
import Derived.LoopNIn
import Derived.LoopIn
import Derived.OneCell
import Derived.BigQuiet
import Derived.Deep.RegionWith
import Derived.Deep.RegionHeld3
import Derived.IntWalk
namespace Go.Proofs.Ytbhngbjopfjacaa.PS15
open Go.RowKit Go.Proofs.YtbhngbjopfjacaaW.PrintWords Go.Proofs.YtbhngbjopfjacaaW.PrintLast Go.Proofs.YtbhngbjopfjacaaW.PrintMore
attribute [local go_sem] max2_int min2_int max_two min_two max_three min_three max_four min_four   -- for this text's walks alone
set_option linter.unusedVariables false
set_option linter.unusedSimpArgs false

attribute [local go_sem] Oper.semAt_some
open Go.Shelf
-- given by hand: tl4


def timeline_Within.f (l : List S25) (a b : Int) : Option (List S25 × Int) := some (if (tl_validB l && tl_insideB l a b) = true then tl_doneF (tl_addAll [] (tl_clip l a b)) else ([], 150))
set_option maxRecDepth 100000 in
set_option maxHeartbeats 1000000 in
theorem tl_within_yes (A0 : Option Addr) (c0 : Nat) (l0 : List S25) (a b : Int) (w : World) (hr0 : Kd.C k25 w A0 l0.length l0) (hc0 : l0.length ≤ c0) (hv : tl_validB l0 = true) (hi : tl_insideB l0 a b = true) :
    Calls Try.prog 27 #[.slice A0 l0.length c0, .agg #[.int .i64 a, .int .i64 b]] w fun e w' => ∃ v : Value, e = .returned (.tuple #[v, .int .i64 (tl_doneF (tl_addAll [] (tl_clip l0 a b))).2]) ∧ Kd.R k25 25 w' w.heap.size (fun _ => True) v (tl_doneF (tl_addAll [] (tl_clip l0 a b))).1 ∧ Below w.heap.size w w' := by
  have hn := hr0.2.1
  have HL := Aside0.mk (show l0.length ≤ 200 by unfold tl_validB at hv; simp at hv; exact hv.2)
  have HR := Aside0.mk hr0
  have HC := Aside0.mk hc0
  have HVF := Aside0.mk ((tl_valid_f l0 hn (k := l0.length + 1) (by omega)).trans (by rw [hv]))
  have HIF := Aside0.mk ((tl_inside_f l0 a b hn).trans (by rw [hi]))
  clear hr0 hc0 hv hi hn
  go_enter Try.func27, Try.ntmps27
  go_wp2_with fail
  refine (timeline_Valid.calls _ _ _ l0 true _ (Kd.C_below HR.out (below_alloc (Below.refl _ _) _)) HC.out HVF.out).mono ?_
  rintro e w1 ⟨rfl, hb1⟩
  have hbx : w1.heap[w.heap.size]? = some (.cells #[.int .i64 a, .int .i64 b] 45 (0, 0)) := (hb1.block w.heap.size (by simp)).trans (World.alloc_heap_new _ _)
  have x0 := (blk_cell hbx 0).trans rfl
  have x1 := (blk_cell hbx 1).trans rfl
  have HB := Aside0.mk (below_then (below_alloc (Below.refl w.heap.size w) _) (by simp) hb1)
  clear hb1 hbx
  go_wp2_with fail
  refine (timeline_isInside.calls _ _ l0 a b true _ (Kd.C_below HR.out HB.out) HC.out HIF.out).mono ?_
  rintro e w3 ⟨rfl, hb2⟩
  have y0 := pw_cell_below hb2.below x0
  have y1 := pw_cell_below hb2.below x1
  have HB3 := Aside0.mk (below_then HB.out HB.out.size hb2.below)
  clear hb2 x0 x1
  have q0 : ∀ o, (w3.alloc o).cell? ⟨w.heap.size, 0, none⟩ = some (.int .i64 a) := fun o => pw_cell_below (below_alloc (Below.refl _ _) o) y0
  have q1 : ∀ o, (w3.alloc o).cell? ⟨w.heap.size, 1, none⟩ = some (.int .i64 b) := fun o => pw_cell_below (below_alloc (Below.refl _ _) o) y1
  clear y0 y1
  go_wp2_with fail
  refine (tl_within_any _ _ _ _ _ _).mono ?_
  rintro e w4 ⟨rfl, rfl⟩
  clear q0 q1
  obtain ⟨W5, hW5⟩ : ∃ W5, w3.alloc (.cells #[.slice none 0 0] 75) = W5 := ⟨_, rfl⟩
  have K0 := Aside0.mk (show tl_BS w3 w3.heap.size W5 [] by rw [← hW5]; exact tl_BS.new (Below.refl _ _))
  have HS5 := Aside0.mk (show W5.heap.size = w3.heap.size + 1 by rw [← hW5]; simp)
  have HR3 := Aside0.mk (Kd.C_below HR.out HB3.out)
  simp only [hW5]
  clear hW5
  go_wp2_with fail
  refine (tl_each_any w3.heap.size W5.heap.size (W5.heap.size + 1) (W5.heap.size + 2) A0 c0 l0 [] a b w3 _ (tl_three_bs K0.out) (by have := HS5.out; omega) (tl_three_0 W5 _ _ _) (tl_three_1 W5 _ _ _) (tl_three_2 W5 _ _ _) HR3.out (by have := HL.out; simp; omega)).mono ?_
  rintro e w6 ⟨rfl, k6⟩
  have K6 := Aside0.mk k6
  clear k6
  go_wp2_with fail
  refine (tl_done_any w3.heap.size _ w3 _ K6.out).mono ?_
  rintro e w11 ⟨v, rfl, hr, hbl⟩
  obtain ⟨A9, c9, rfl⟩ := Kd.R_slice hr
  have HR11 := Aside0.mk hr
  have HB11 := Aside0.mk hbl
  clear hr hbl
  go_wp2
  go_ret2
  exact ⟨_, rfl, Kd.R_lower HR11.out HB3.out.size, below_then HB3.out HB3.out.size HB11.out⟩
set_option maxRecDepth 100000 in
set_option maxHeartbeats 1000000 in
theorem tl_within_no (A0 : Option Addr) (c0 : Nat) (l0 : List S25) (a b : Int) (w : World) (hr0 : Kd.C k25 w A0 l0.length l0) (hc0 : l0.length ≤ c0) (h : tl_validB l0 = false ∨ (tl_validB l0 = true ∧ tl_insideB l0 a b = false)) :
    Calls Try.prog 27 #[.slice A0 l0.length c0, .agg #[.int .i64 a, .int .i64 b]] w fun e w' => e = .returned (.tuple #[.slice none 0 0, .int .i64 150]) ∧ Below w.heap.size w w' := by
  have hn := hr0.2.1
  have HR := Aside0.mk hr0
  have HC := Aside0.mk hc0
  have HIF := Aside0.mk (tl_inside_f l0 a b hn)
  have HVF := Aside0.mk (tl_valid_f l0 hn (k := l0.length + 1) (by omega))
  clear hr0 hc0 hn
  rcases h with h | ⟨h, h'⟩
  · rw [h] at HVF
    clear h
    go_enter Try.func27, Try.ntmps27
    go_wp2_with fail
    refine (timeline_Valid.calls _ _ _ l0 false _ (Kd.C_below HR.out (below_alloc (Below.refl _ _) _)) HC.out HVF.out).mono ?_
    rintro e w1 ⟨rfl, hb1⟩
    have HB := Aside0.mk (below_then (below_alloc (Below.refl w.heap.size w) _) (by simp) hb1)
    clear hb1
    go_wp2
    go_ret2
    exact ⟨rfl, HB.out⟩
  · rw [h] at HVF
    rw [h'] at HIF
    clear h h'
    go_enter Try.func27, Try.ntmps27
    go_wp2_with fail
    refine (timeline_Valid.calls _ _ _ l0 true _ (Kd.C_below HR.out (below_alloc (Below.refl _ _) _)) HC.out HVF.out).mono ?_
    rintro e w1 ⟨rfl, hb1⟩
    have HB := Aside0.mk (below_then (below_alloc (Below.refl w.heap.size w) _) (by simp) hb1)
    have hbx : w1.heap[w.heap.size]? = some (.cells #[.int .i64 a, .int .i64 b] 45 (0, 0)) := (hb1.block w.heap.size (by simp)).trans (World.alloc_heap_new _ _)
    have x0 := (blk_cell hbx 0).trans rfl
    have x1 := (blk_cell hbx 1).trans rfl
    clear hb1 hbx
    go_wp2_with fail
    refine (timeline_isInside.calls _ _ l0 a b false _ (Kd.C_below HR.out HB.out) HC.out HIF.out).mono ?_
    rintro e w2 ⟨rfl, hb2⟩
    have HB2 := Aside0.mk (below_then HB.out HB.out.size hb2.below)
    clear hb2 x0 x1
    go_wp2
    go_ret2
    exact ⟨rfl, HB2.out⟩
theorem timeline_Within.calls (A0 : Option Addr) (c0 : Nat) (l0 : List S25) (a1_0 a1_1 : Int) (r1 : List S25) (r2 : Int) (w : World) (hr0 : Kd.C k25 w A0 l0.length l0) (hc0 : l0.length ≤ c0) (h : timeline_Within.f l0 a1_0 a1_1 = some (r1, r2)) :
    Calls Try.prog 27 #[.slice A0 l0.length c0, .agg #[.int .i64 a1_0, .int .i64 a1_1]] w fun e w' => ∃ v0_ : Value, e = .returned (.tuple #[v0_, .int .i64 r2]) ∧ Kd.R k25 25 w' w.heap.size (fun _ => True) v0_ r1 ∧ Below w.heap.size w w' := by
  unfold timeline_Within.f at h
  replace h := Option.some.inj h
  by_cases hc : (tl_validB l0 && tl_insideB l0 a1_0 a1_1) = true
  · rw [if_pos hc] at h
    simp only [Bool.and_eq_true] at hc
    have e1 : r1 = (tl_doneF (tl_addAll [] (tl_clip l0 a1_0 a1_1))).1 := by rw [h]
    have e2 : r2 = (tl_doneF (tl_addAll [] (tl_clip l0 a1_0 a1_1))).2 := by rw [h]
    rw [e1, e2]
    exact tl_within_yes A0 c0 l0 a1_0 a1_1 w hr0 hc0 hc.1 hc.2
  · rw [if_neg hc] at h
    obtain ⟨rfl, rfl⟩ := Prod.mk.inj h
    refine (tl_within_no A0 c0 l0 a1_0 a1_1 w hr0 hc0 ?_).mono ?_
    · cases hv : tl_validB l0 <;> cases hi : tl_insideB l0 a1_0 a1_1 <;> simp_all
    · rintro e w' ⟨rfl, hb⟩
      exact ⟨_, rfl, Kd.R_nil _ _ _ _ _, hb⟩



def tl_joinB (l m : List S25) (t : Int) : Bool := tl_validB l && tl_validB m && decide (0 ≤ t) && decide (t ≤ tl_tend l) && decide (t ≤ tl_tend m)
def tl_joinP (l m : List S25) (t : Int) : List S25 := tl_addAll (tl_addAll [] (tl_clip l 0 t)) (tl_clip m t (tl_tend m))
def timeline_Join.f (l m : List S25) (t : Int) : Option (List S25 × Int) := some (if tl_joinB l m t = true then tl_doneF (tl_joinP l m t) else ([], 150))
set_option maxRecDepth 100000 in
set_option maxHeartbeats 1000000 in
theorem tl_join_yes (A0 : Option Addr) (c0 : Nat) (l0 : List S25) (A1 : Option Addr) (c1 : Nat) (l1 : List S25) (t : Int) (w : World) (hr0 : Kd.C k25 w A0 l0.length l0) (hc0 : l0.length ≤ c0) (hr1 : Kd.C k25 w A1 l1.length l1) (hc1 : l1.length ≤ c1)
    (hv : tl_validB l0 = true) (hv1 : tl_validB l1 = true) (h0 : 0 ≤ t) (h1 : t ≤ tl_tend l0) (h2 : t ≤ tl_tend l1) :
    Calls Try.prog 22 #[.slice A0 l0.length c0, .slice A1 l1.length c1, .int .i64 t] w fun e w' => ∃ v : Value, e = .returned (.tuple #[v, .int .i64 (tl_doneF (tl_joinP l0 l1 t)).2]) ∧ Kd.R k25 25 w' w.heap.size (fun _ => True) v (tl_doneF (tl_joinP l0 l1 t)).1 ∧ Below w.heap.size w w' := by
  have hn := hr0.2.1
  have hn1 := hr1.2.1
  have HL := Aside0.mk (show l0.length ≤ 200 by unfold tl_validB at hv; simp at hv; exact hv.2)
  have HL1 := Aside0.mk (show l1.length ≤ 200 by unfold tl_validB at hv1; simp at hv1; exact hv1.2)
  have HR := Aside0.mk hr0
  have HC := Aside0.mk hc0
  have HR1 := Aside0.mk hr1
  have HC1 := Aside0.mk hc1
  have HVF := Aside0.mk ((tl_valid_f l0 hn (k := l0.length + 1) (by omega)).trans (by rw [hv]))
  have HVF1 := Aside0.mk ((tl_valid_f l1 hn1 (k := l1.length + 1) (by omega)).trans (by rw [hv1]))
  have HEF := Aside0.mk (tl_end_f l0 hn)
  have HEF1 := Aside0.mk (tl_end_f l1 hn1)
  have HAL := Aside0.mk (tl_addAll_clip_len l0 [] 0 t)
  have t0 : decide (t < 0) = false := by simp; omega
  have t1 : decide (tl_tend l0 < t) = false := by simp; omega
  have t2 : decide (tl_tend l1 < t) = false := by simp; omega
  clear hr0 hc0 hr1 hc1 hv hv1 hn hn1 h0 h1 h2
  go_enter Try.func22, Try.ntmps22
  go_wp2_with fail
  refine (timeline_Valid.calls _ _ _ l0 true _ HR.out HC.out HVF.out).mono ?_
  rintro e w1 ⟨rfl, hb1⟩
  have HB1 := Aside0.mk hb1
  clear hb1
  go_wp2_with fail
  refine (timeline_Valid.calls _ _ _ l1 true _ (Kd.C_below HR1.out HB1.out) HC1.out HVF1.out).mono ?_
  rintro e w2 ⟨rfl, hb2⟩
  have HB2 := Aside0.mk (below_then HB1.out HB1.out.size hb2)
  clear hb2
  go_wp2_with fail
  refine (timeline_end.calls _ _ l0 (tl_tend l0) _ (Kd.C_below HR.out HB2.out) HC.out HEF.out).mono ?_
  rintro e w3 ⟨rfl, hb3⟩
  have HB3 := Aside0.mk (below_then HB2.out HB2.out.size hb3.below)
  clear hb3
  go_wp2_with fail
  refine (timeline_end.calls _ _ l1 (tl_tend l1) _ (Kd.C_below HR1.out HB3.out) HC1.out HEF1.out).mono ?_
  rintro e w4 ⟨rfl, hb4⟩
  have HB4 := Aside0.mk (below_then HB3.out HB3.out.size hb4.below)
  clear hb4
  go_wp2_with fail
  refine (tl_within_any _ _ _ _ _ _).mono ?_
  rintro e w5 ⟨rfl, rfl⟩
  obtain ⟨W5, hW5⟩ : ∃ W5, w4.alloc (.cells #[.slice none 0 0] 75) = W5 := ⟨_, rfl⟩
  have K0 := Aside0.mk (show tl_BS w4 w4.heap.size W5 [] by rw [← hW5]; exact tl_BS.new (Below.refl _ _))
  have HS5 := Aside0.mk (show W5.heap.size = w4.heap.size + 1 by rw [← hW5]; simp)
  have HR4 := Aside0.mk (Kd.C_below HR.out HB4.out)
  have HR14 := Aside0.mk (Kd.C_below HR1.out HB4.out)
  simp only [hW5]
  clear hW5
  go_wp2_with fail
  refine (tl_each_any w4.heap.size W5.heap.size (W5.heap.size + 1) (W5.heap.size + 2) A0 c0 l0 [] 0 t w4 _ (tl_three_bs K0.out) (by have := HS5.out; omega) (tl_three_0 W5 _ _ _) (tl_three_1 W5 _ _ _) (tl_three_2 W5 _ _ _) HR4.out (by have := HL.out; simp; omega)).mono ?_
  rintro e w6 ⟨rfl, k6⟩
  have K6 := Aside0.mk k6
  clear k6
  go_wp2_with fail
  refine (timeline_end.calls _ _ l1 (tl_tend l1) _ (Kd.C_below HR14.out K6.out.low) HC1.out HEF1.out).mono ?_
  rintro e w7 ⟨rfl, hb7⟩
  have K7 := Aside0.mk (K6.out.below hb7.below)
  clear hb7
  go_wp2_with fail
  refine (tl_within_any _ _ _ _ _ _).mono ?_
  rintro e w8 ⟨rfl, rfl⟩
  go_wp2_with fail
  refine (tl_each_any w4.heap.size w7.heap.size (w7.heap.size + 1) (w7.heap.size + 2) A1 c1 l1 (tl_addAll [] (tl_clip l0 0 t)) t (tl_tend l1) w4 _ (tl_three_bs K7.out) (by have := K7.out.lt; omega) (tl_three_0 w7 _ _ _) (tl_three_1 w7 _ _ _) (tl_three_2 w7 _ _ _) HR14.out (by have := HL.out; have := HL1.out; have := HAL.out; simp at this; omega)).mono ?_
  rintro e w9 ⟨rfl, k9⟩
  have K9 := Aside0.mk k9
  clear k9
  go_wp2_with fail
  refine (tl_done_any w4.heap.size _ w4 _ K9.out).mono ?_
  rintro e w11 ⟨v, rfl, hr, hbl⟩
  obtain ⟨A9, c9, rfl⟩ := Kd.R_slice hr
  have HR11 := Aside0.mk hr
  have HB11 := Aside0.mk hbl
  clear hr hbl
  go_wp2
  go_ret2
  exact ⟨_, rfl, Kd.R_lower HR11.out HB4.out.size, below_then HB4.out HB4.out.size HB11.out⟩
set_option maxRecDepth 100000 in
set_option maxHeartbeats 1000000 in
theorem tl_join_no (A0 : Option Addr) (c0 : Nat) (l0 : List S25) (A1 : Option Addr) (c1 : Nat) (l1 : List S25) (t : Int) (w : World) (hr0 : Kd.C k25 w A0 l0.length l0) (hc0 : l0.length ≤ c0) (hr1 : Kd.C k25 w A1 l1.length l1) (hc1 : l1.length ≤ c1)
    (h : ¬ (tl_validB l0 = true ∧ tl_validB l1 = true ∧ 0 ≤ t ∧ t ≤ tl_tend l0 ∧ t ≤ tl_tend l1)) :
    Calls Try.prog 22 #[.slice A0 l0.length c0, .slice A1 l1.length c1, .int .i64 t] w fun e w' => e = .returned (.tuple #[.slice none 0 0, .int .i64 150]) ∧ Below w.heap.size w w' := by
  have hn := hr0.2.1
  have hn1 := hr1.2.1
  have HR := Aside0.mk hr0
  have HC := Aside0.mk hc0
  have HR1 := Aside0.mk hr1
  have HC1 := Aside0.mk hc1
  have HVF := Aside0.mk (tl_valid_f l0 hn (k := l0.length + 1) (by omega))
  have HVF1 := Aside0.mk (tl_valid_f l1 hn1 (k := l1.length + 1) (by omega))
  have HEF := Aside0.mk (tl_end_f l0 hn)
  have HEF1 := Aside0.mk (tl_end_f l1 hn1)
  have H := Aside0.mk h
  clear hr0 hc0 hr1 hc1 hn hn1 h
  by_cases hv : tl_validB l0 = true
  · rw [hv] at HVF H
    by_cases hv1 : tl_validB l1 = true
    · rw [hv1] at HVF1 H
      clear hv hv1
      by_cases h0 : t < 0
      · have t0 : decide (t < 0) = true := by simp; omega
        clear h0
        go_enter Try.func22, Try.ntmps22
        go_wp2_with fail
        refine (timeline_Valid.calls _ _ _ l0 true _ HR.out HC.out HVF.out).mono ?_
        rintro e w1 ⟨rfl, hb1⟩
        have HB1 := Aside0.mk hb1
        clear hb1
        go_wp2_with fail
        refine (timeline_Valid.calls _ _ _ l1 true _ (Kd.C_below HR1.out HB1.out) HC1.out HVF1.out).mono ?_
        rintro e w2 ⟨rfl, hb2⟩
        have HB2 := Aside0.mk (below_then HB1.out HB1.out.size hb2)
        clear hb2
        go_wp2
        go_ret2
        exact ⟨rfl, HB2.out⟩
      · have t0 : decide (t < 0) = false := by simp; omega
        by_cases h1 : tl_tend l0 < t
        · have t1 : decide (tl_tend l0 < t) = true := by simp; omega
          clear h0 h1
          go_enter Try.func22, Try.ntmps22
          go_wp2_with fail
          refine (timeline_Valid.calls _ _ _ l0 true _ HR.out HC.out HVF.out).mono ?_
          rintro e w1 ⟨rfl, hb1⟩
          have HB1 := Aside0.mk hb1
          clear hb1
          go_wp2_with fail
          refine (timeline_Valid.calls _ _ _ l1 true _ (Kd.C_below HR1.out HB1.out) HC1.out HVF1.out).mono ?_
          rintro e w2 ⟨rfl, hb2⟩
          have HB2 := Aside0.mk (below_then HB1.out HB1.out.size hb2)
          clear hb2
          go_wp2_with fail
          refine (timeline_end.calls _ _ l0 (tl_tend l0) _ (Kd.C_below HR.out HB2.out) HC.out HEF.out).mono ?_
          rintro e w3 ⟨rfl, hb3⟩
          have HB3 := Aside0.mk (below_then HB2.out HB2.out.size hb3.below)
          clear hb3
          go_wp2
          go_ret2
          exact ⟨rfl, HB3.out⟩
        · have t1 : decide (tl_tend l0 < t) = false := by simp; omega
          have t2 : decide (tl_tend l1 < t) = true := by
            have := H.out
            simp at this ⊢
            omega
          clear h0 h1
          go_enter Try.func22, Try.ntmps22
          go_wp2_with fail
          refine (timeline_Valid.calls _ _ _ l0 true _ HR.out HC.out HVF.out).mono ?_
          rintro e w1 ⟨rfl, hb1⟩
          have HB1 := Aside0.mk hb1
          clear hb1
          go_wp2_with fail
          refine (timeline_Valid.calls _ _ _ l1 true _ (Kd.C_below HR1.out HB1.out) HC1.out HVF1.out).mono ?_
          rintro e w2 ⟨rfl, hb2⟩
          have HB2 := Aside0.mk (below_then HB1.out HB1.out.size hb2)
          clear hb2
          go_wp2_with fail
          refine (timeline_end.calls _ _ l0 (tl_tend l0) _ (Kd.C_below HR.out HB2.out) HC.out HEF.out).mono ?_
          rintro e w3 ⟨rfl, hb3⟩
          have HB3 := Aside0.mk (below_then HB2.out HB2.out.size hb3.below)
          clear hb3
          go_wp2_with fail
          refine (timeline_end.calls _ _ l1 (tl_tend l1) _ (Kd.C_below HR1.out HB3.out) HC1.out HEF1.out).mono ?_
          rintro e w4 ⟨rfl, hb4⟩
          have HB4 := Aside0.mk (below_then HB3.out HB3.out.size hb4.below)
          clear hb4
          go_wp2
          go_ret2
          exact ⟨rfl, HB4.out⟩
    · rw [show tl_validB l1 = false by simpa using hv1] at HVF1
      clear hv hv1
      go_enter Try.func22, Try.ntmps22
      go_wp2_with fail
      refine (timeline_Valid.calls _ _ _ l0 true _ HR.out HC.out HVF.out).mono ?_
      rintro e w1 ⟨rfl, hb1⟩
      have HB1 := Aside0.mk hb1
      clear hb1
      go_wp2_with fail
      refine (timeline_Valid.calls _ _ _ l1 false _ (Kd.C_below HR1.out HB1.out) HC1.out HVF1.out).mono ?_
      rintro e w2 ⟨rfl, hb2⟩
      have HB2 := Aside0.mk (below_then HB1.out HB1.out.size hb2)
      clear hb2
      go_wp2
      go_ret2
      exact ⟨rfl, HB2.out⟩
  · rw [show tl_validB l0 = false by simpa using hv] at HVF
    clear hv
    go_enter Try.func22, Try.ntmps22
    go_wp2_with fail
    refine (timeline_Valid.calls _ _ _ l0 false _ HR.out HC.out HVF.out).mono ?_
    rintro e w1 ⟨rfl, hb1⟩
    have HB1 := Aside0.mk hb1
    clear hb1
    go_wp2
    go_ret2
    exact ⟨rfl, HB1.out⟩
theorem timeline_Join.calls (A0 : Option Addr) (c0 : Nat) (l0 : List S25) (A1 : Option Addr) (c1 : Nat) (l1 : List S25) (a2 : Int) (r1 : List S25) (r2 : Int) (w : World) (hr0 : Kd.C k25 w A0 l0.length l0) (hc0 : l0.length ≤ c0) (hr1 : Kd.C k25 w A1 l1.length l1) (hc1 : l1.length ≤ c1) (h : timeline_Join.f l0 l1 a2 = some (r1, r2)) :
    Calls Try.prog 22 #[.slice A0 l0.length c0, .slice A1 l1.length c1, .int .i64 a2] w fun e w' => ∃ v0_ : Value, e = .returned (.tuple #[v0_, .int .i64 r2]) ∧ Kd.R k25 25 w' w.heap.size (fun _ => True) v0_ r1 ∧ Below w.heap.size w w' := by
  unfold timeline_Join.f at h
  replace h := Option.some.inj h
  by_cases hc : tl_joinB l0 l1 a2 = true
  · rw [if_pos hc] at h
    simp only [tl_joinB, Bool.and_eq_true, decide_eq_true_eq] at hc
    have e1 : r1 = (tl_doneF (tl_joinP l0 l1 a2)).1 := by rw [h]
    have e2 : r2 = (tl_doneF (tl_joinP l0 l1 a2)).2 := by rw [h]
    rw [e1, e2]
    exact tl_join_yes A0 c0 l0 A1 c1 l1 a2 w hr0 hc0 hr1 hc1 hc.1.1.1.1 hc.1.1.1.2 hc.1.1.2 hc.1.2 hc.2
  · rw [if_neg hc] at h
    obtain ⟨rfl, rfl⟩ := Prod.mk.inj h
    refine (tl_join_no A0 c0 l0 A1 c1 l1 a2 w hr0 hc0 hr1 hc1 (fun hh => hc (by simp [tl_joinB, hh]))).mono ?_
    rintro e w' ⟨rfl, hb⟩
    exact ⟨_, rfl, Kd.R_nil _ _ _ _ _, hb⟩



def tl_atP (l : List S25) (t : Int) : Int × Int := match (tl_clip l t (wrap64 (t + 1))).head? with
  | none => (0, 150)
  | some s => (s.f2, 0)
def timeline_At.f (l : List S25) (t : Int) : Option (Int × Int) := some (if tl_validB l = true then tl_atP l t else (0, 150))
def tl_RC (W : World) (B0 B1 : Nat) (x y : Int) : Prop := Boxed W B0 3 (.int .i64 x) ∧ Boxed W B1 36 (.int .i64 y)
theorem tl_RC.own {X Y : World} {row : Option Nat} {B0 B1 : Nat} {x y : Int} (h : tl_RC X B0 B1 x y) (hg : X.grownBy Y row) (hr : ∀ r, row = some r → ∃ o : Obj, X.heap[r]? = some o ∧ o.isCells = false) : tl_RC Y B0 B1 x y :=
  ⟨boxed_own B0 3 (fun (_ : Unit) => Value.int .i64 x) () X Y row h.1 hg hr, boxed_own B1 36 (fun (_ : Unit) => Value.int .i64 y) () X Y row h.2 hg hr⟩
theorem Boxed.below' {X Y : World} {B t : Nat} {v : Value} (h : Boxed X B t v) (hb : Below X.heap.size X Y) : Boxed Y B t v := (hb.block B (Array.getElem?_eq_some_iff.1 h).1).trans h
theorem tl_RC.below {X Y : World} {B0 B1 : Nat} {x y : Int} (h : tl_RC X B0 B1 x y) (hb : Below X.heap.size X Y) : tl_RC Y B0 B1 x y := ⟨Boxed.below' h.1 hb, Boxed.below' h.2 hb⟩
theorem tl_RC.set {W : World} {B : Nat} {x y x' y' : Int} (h : tl_RC W B (B + 1) x y) : tl_RC ((W.setCell ⟨B, 0, none⟩ (.int .i64 x')).setCell ⟨B + 1, 0, none⟩ (.int .i64 y')) B (B + 1) x' y' :=
  ⟨(h.1.set _).other (by simp) _, (h.2.other (by simp) _).set _⟩
theorem tl_below_alloc' {w W : World} (h : Below w.heap.size w W) (o : Obj) : Below w.heap.size w (W.alloc o) := below_alloc h o
set_option maxRecDepth 100000 in
set_option maxHeartbeats 2000000 in
theorem tl_at_in (n : Nat) (hn : 6 ≤ n) (A0 : Option Addr) (c0 : Nat) (l0 : List S25) (t : Int) (w : World) (hr0 : Kd.C k25 w A0 l0.length l0) (hc0 : l0.length ≤ c0) (hv : tl_validB l0 = true) :
    CallsIn Fence.wide n Try.prog 20 #[.slice A0 l0.length c0, .int .i64 t] w fun e w' => e = .returned (.tuple #[.int .i64 (tl_atP l0 t).1, .int .i64 (tl_atP l0 t).2]) ∧ Below w.heap.size w w' := by
  have h1 : 1 ≤ n := by omega
  have hn0 := hr0.2.1
  have hl : l0.length ≤ 200 := by unfold tl_validB at hv; simp at hv; exact hv.2
  have HR := Aside0.mk hr0
  have HC := Aside0.mk hc0
  have HVF := Aside0.mk ((tl_valid_f l0 hn0 (k := l0.length + 1) (by omega)).trans (by rw [hv]))
  obtain ⟨u, hu⟩ : ∃ u, wrap64 (t + 1) = u := ⟨_, rfl⟩
  have hw : IntKind.i64.wrap (t + 1) = u := (i64_w _).trans hu
  have HU := Aside0.mk hu
  clear hr0 hc0 hn0 hv hu
  refine callsIn_of_wp_marks Try.func20 rfl trivial ?_ rfl
  simp only [Try.ntmps20, List.size_toArray, List.length_cons, List.length_nil, Nat.reduceAdd, Nat.reduceSub, Array.replicate_succ, Array.replicate_zero, List.push_toArray, List.append_toArray, List.nil_append, List.cons_append]
  gi_wp2_with fail
  refine ⟨trivial, ?_⟩
  refine (callsIn_wide.2 (timeline_Valid.calls _ _ _ l0 true _ (Kd.C_below HR.out (below_alloc (below_alloc (Below.refl _ _) _) _)) HC.out HVF.out)).mono ?_
  rintro e w1 ⟨rfl, hb1⟩
  have HB1 := Aside0.mk (below_then (below_alloc (below_alloc (Below.refl w.heap.size w) _) _) (by simp; omega) hb1)
  have HC4 := Aside0.mk (tl_RC.below (show tl_RC _ w.heap.size (w.heap.size + 1) 0 0 from ⟨(Boxed.new w 3 (.int .i64 0)).alloc _, by have := Boxed.new (w.alloc (.cells #[.int .i64 0] 3)) 36 (.int .i64 0); rwa [World.size_alloc] at this⟩) hb1)
  clear hb1
  gi_wp2_with fail
  refine ⟨trivial, ?_⟩
  refine (callsIn_wide.2 (tl_within_any _ _ _ _ _ _)).mono ?_
  rintro e w2 ⟨rfl, rfl⟩
  gi_wp2_with fail
  obtain ⟨W0, hW0⟩ : ∃ W0, tl_three w1 (.slice A0 l0.length c0) (.int .i64 t) (.int .i64 u) = W0 := ⟨_, rfl⟩
  have k0 : W0.heap[w1.heap.size]? = some (.cells #[.slice A0 l0.length c0] 23 (0, 0)) := by rw [← hW0]; exact tl_three_0 _ _ _ _
  have k1 : W0.heap[w1.heap.size + 1]? = some (.cells #[.int .i64 t] 3 (0, 0)) := by rw [← hW0]; exact tl_three_1 _ _ _ _
  have k2 : W0.heap[w1.heap.size + 2]? = some (.cells #[.int .i64 u] 3 (0, 0)) := by rw [← hW0]; exact tl_three_2 _ _ _ _
  have hb0 : Below w1.heap.size w1 W0 := by rw [← hW0]; exact tl_three_below _ _ _ _
  have HW0 := Aside0.mk (below_then HB1.out HB1.out.size hb0)
  have HC0 := Aside0.mk (tl_RC.below HC4.out hb0)
  have hs2 : w.heap.size + 1 < w1.heap.size := (Array.getElem?_eq_some_iff.1 HC4.out.2).1
  have hs3 : w1.heap.size + 2 < W0.heap.size := (Array.getElem?_eq_some_iff.1 k2).1
  rw [show ((w1.alloc (.cells #[.slice A0 l0.length c0] 23)).alloc (.cells #[.int .i64 t] 3)).alloc (.cells #[.int .i64 u] 3) = W0 from hW0]
  refine wpIn_rangeFunc_ownH rfl h1 (gf := 56) (lb := #[.pointer (some ⟨w1.heap.size, 0, none⟩), .pointer (some ⟨w1.heap.size + 1, 0, none⟩), .pointer (some ⟨w1.heap.size + 2, 0, none⟩)]) rfl trivial (enters_of Try.func56 (by kernel_rfl) rfl)
    (tl_within_stops (n - 1) (by omega) w1.heap.size (w1.heap.size + 1) (w1.heap.size + 2) A0 c0 l0 t u w W0 (by omega) (by omega) (by omega) ((blk_cell k0 0).trans rfl) ((blk_cell k1 0).trans rfl) ((blk_cell k2 0).trans rfl) HW0.out HR.out (by omega))
    (fun h k => h.then_ k (fun _ hk => .inl hk)) ?hKb (Below.refl _ _) (fun _ => rfl)
    (fun pre W => Aside0 (pre = []) ∧ tl_RC W w.heap.size (w.heap.size + 1) 0 0 ∧ Below w.heap.size w W ∧ W0.heap.size ≤ W.heap.size)
    (fun c pre W => ∃ x, c = .ret ∧ pre = [x] ∧ tl_RC W w.heap.size (w.heap.size + 1) x.f2 0 ∧ Below w.heap.size w W)
    ?hI ?hIx
    ⟨⟨rfl⟩, HC0.out, HW0.out, Nat.le_refl _⟩
    (fun x a' W => ∃ Bx, W0.heap.size ≤ Bx ∧ W.heap[Bx]? = some (.cells #[.int .i64 x.f0, .int .i64 x.f1, .int .i64 x.f2] 25 (0, 0)) ∧ a' = { tmps := #[.slice A0 l0.length c0, .int .i64 t, undef, undef, .pointer (some ⟨w.heap.size, 0, none⟩), .pointer (some ⟨w.heap.size + 1, 0, none⟩), .pointer (some ⟨Bx, 0, none⟩), .slice A0 l0.length c0, .bool true, .slice A0 l0.length c0, .int .i64 t, .int .i64 t, .int .i64 u, .func (.func 56) #[] #[.pointer (some ⟨w1.heap.size, 0, none⟩), .pointer (some ⟨w1.heap.size + 1, 0, none⟩), .pointer (some ⟨w1.heap.size + 2, 0, none⟩)], .agg #[.int .i64 x.f0, .int .i64 x.f1, .int .i64 x.f2], undef, undef], defers := [] })
    ?hAx
    ?assign ?body ?done ?stop
  case hKb =>
    intro W l o o' hl ho hc _
    exact Kept.of_grown (grownBy_putObj' W l o') (Kept.refl W _) (fun k e => by cases e; exact .inl ⟨by have := HW0.out.size; omega, by omega, by omega, by omega⟩)
  case hI =>
    rintro s X Y row ⟨hs1, hs2', hs3', hs4⟩ hg hr
    exact ⟨hs1, hs2'.own hg (fun r e => (hr r e).2), hs3'.grown hg hs3'.size (fun r e => by have := (hr r e).1; have := HW0.out.size; omega), Nat.le_trans hs4 hg.size⟩
  case hIx =>
    rintro c s X Y row ⟨x, hs1, hs2', hs3', hs4⟩ hg hr
    exact ⟨x, hs1, hs2', hs3'.own hg (fun r e => (hr r e).2), hs4.grown hg hs4.size (fun r e => by have := (hr r e).1; have := HW0.out.size; omega)⟩
  case hAx =>
    rintro x a' _ X Y row ⟨Bx, h1, h2, h3⟩ hg hr
    refine ⟨Bx, h1, (hg.block Bx (Array.getElem?_eq_some_iff.1 h2).1 (fun e => ?_)).trans h2, h3⟩
    obtain ⟨o, ho, hc⟩ := (hr Bx e.symm).2
    rw [h2] at ho
    cases ho
    cases hc
  case assign =>
    rintro l pre x W K ⟨hp, hS1, hz1, hk1⟩ hK
    have HS1 := Aside0.mk hS1
    have HZ1 := Aside0.mk hz1
    clear hS1 hz1
    gi_wp2
    exact hK _ _ ((KeepsOthers.alloc _ _).from _) (Kept.alloc (Kept.refl _ _) _) ⟨hp, tl_RC.below HS1.out (below_alloc (Below.refl _ _) _), tl_below_alloc' HZ1.out _, by simp; omega⟩ ⟨W.heap.size, hk1, World.alloc_heap_new _ _, rfl⟩
  case body =>
    rintro l pre x a' W hl ⟨r, hr⟩ ⟨hp, hS1, hz1, hk1⟩ ⟨Bx, hBx, bX, rfl⟩ hlt
    have x0 := (blk_cell bX 2).trans rfl
    have c4 := hS1.1.cell
    have f4 := hS1.1.frozen
    have c5 := hS1.2.cell
    have f5 := hS1.2.frozen
    have HS1 := Aside0.mk hS1
    have HZ1 := Aside0.mk hz1
    have g5 : ∀ v, (W.setCell ⟨w.heap.size, 0, none⟩ v).cell? ⟨w.heap.size + 1, 0, none⟩ = some (.int .i64 0) := fun v => (cell_far (by simp) v).trans c5
    have h5 : ∀ v, (W.setCell ⟨w.heap.size, 0, none⟩ v).frozen? ⟨w.heap.size + 1, 0, none⟩ = false := fun v => by rw [World.frozen?_setCell]; exact f5
    clear hS1 hz1 hr bX hlt
    gi_wp2
    exact ⟨((KeepsOthers.setCell _ _ _).trans (KeepsOthers.setCell _ _ _)).from _, x, rfl, by rw [hp.out]; rfl, tl_RC.set HS1.out, (HZ1.out.setCell (p := ⟨w.heap.size, 0, none⟩) (Nat.le_refl _) _).setCell (p := ⟨w.heap.size + 1, 0, none⟩) (by simp) _⟩
  case done =>
    rintro D ys W hD hys ⟨⟨rfl⟩, hS1, hz1, hk1⟩ hK
    have e0 : tl_atP l0 t = (0, 150) := by unfold tl_atP; rw [HU.out, ← hys]; rfl
    have E0 := Aside0.mk e0
    clear e0 hys
    have c4 := hS1.1.cell
    have f4 := hS1.1.frozen
    have c5 := hS1.2.cell
    have f5 := hS1.2.frozen
    have HS1 := Aside0.mk hS1
    have HZ1 := Aside0.mk hz1
    have g5 : ∀ v, (W.setCell ⟨w.heap.size, 0, none⟩ v).cell? ⟨w.heap.size + 1, 0, none⟩ = some (.int .i64 0) := fun v => (cell_far (by simp) v).trans c5
    have h5 : ∀ v, (W.setCell ⟨w.heap.size, 0, none⟩ v).frozen? ⟨w.heap.size + 1, 0, none⟩ = false := fun v => by rw [World.frozen?_setCell]; exact f5
    clear hS1 hz1
    gi_wp2
    have hK' := ((KeepsOthers.setCell W ⟨w.heap.size, 0, none⟩ (.int .i64 0)).trans (KeepsOthers.setCell _ ⟨w.heap.size + 1, 0, none⟩ (.int .i64 150))).same D _ hK rfl
    refine ⟨by simp, .inl ⟨_, _, rfl, run_takeDeferred hK', ?_⟩⟩
    have hrc := (tl_RC.set (x' := 0) (y' := 150) HS1.out).own (grownBy_putObj' _ D (.deferred none)) (fun r e => by cases e; exact ⟨_, hK', rfl⟩)
    have k4 := hrc.1.cell
    have k5 := hrc.2.cell
    refine ⟨.tuple #[.int .i64 0, .int .i64 150], by simp [results, Try.f20, go_sem, k4, k5], by rw [E0.out], ?_⟩
    exact ((HZ1.out.setCell (p := ⟨w.heap.size, 0, none⟩) (Nat.le_refl _) _).setCell (p := ⟨w.heap.size + 1, 0, none⟩) (by simp) _).grown (grownBy_putObj' _ D (.deferred none)) (by simp; exact HZ1.out.size) (fun r e => by cases e; have := HW0.out.size; omega)
  case stop =>
    rintro D c pre W hD hpre ⟨x, rfl, rfl, hS1, hz1⟩ hK
    have e0 : tl_atP l0 t = (x.f2, 0) := by
      obtain ⟨q, hq⟩ := hpre
      unfold tl_atP; rw [HU.out, ← hq]; rfl
    have E0 := Aside0.mk e0
    clear e0 hpre
    have HS1 := Aside0.mk hS1
    have HZ1 := Aside0.mk hz1
    clear hS1 hz1
    gi_wp2
    refine ⟨by simp, .inl ⟨_, _, rfl, run_takeDeferred hK, ?_⟩⟩
    have hrc := HS1.out.own (grownBy_putObj' _ D (.deferred none)) (fun r e => by cases e; exact ⟨_, hK, rfl⟩)
    have k4 := hrc.1.cell
    have k5 := hrc.2.cell
    refine ⟨.tuple #[.int .i64 x.f2, .int .i64 0], by simp [results, Try.f20, go_sem, k4, k5], by rw [E0.out], ?_⟩
    exact HZ1.out.grown (grownBy_putObj' _ D (.deferred none)) HZ1.out.size (fun r e => by cases e; have := HW0.out.size; omega)

set_option maxRecDepth 100000 in
set_option maxHeartbeats 1000000 in
theorem tl_at_no (A0 : Option Addr) (c0 : Nat) (l0 : List S25) (t : Int) (w : World) (hr0 : Kd.C k25 w A0 l0.length l0) (hc0 : l0.length ≤ c0) (hv : tl_validB l0 = false) :
    Calls Try.prog 20 #[.slice A0 l0.length c0, .int .i64 t] w fun e w' => e = .returned (.tuple #[.int .i64 0, .int .i64 150]) ∧ Below w.heap.size w w' := by
  have hn0 := hr0.2.1
  have HR := Aside0.mk hr0
  have HC := Aside0.mk hc0
  have HVF := Aside0.mk ((tl_valid_f l0 hn0 (k := l0.length + 1) (by omega)).trans (by rw [hv]))
  clear hr0 hc0 hn0 hv
  go_enter Try.func20, Try.ntmps20
  go_wp2_with fail
  refine (timeline_Valid.calls _ _ _ l0 false _ (Kd.C_below HR.out (below_alloc (below_alloc (Below.refl _ _) _) _)) HC.out HVF.out).mono ?_
  rintro e w1 ⟨rfl, hb1⟩
  have HB1 := Aside0.mk (below_then (below_alloc (below_alloc (Below.refl w.heap.size w) _) _) (by simp; omega) hb1)
  have hS1 := (tl_RC.below (show tl_RC _ w.heap.size (w.heap.size + 1) 0 0 from ⟨(Boxed.new w 3 (.int .i64 0)).alloc _, by have := Boxed.new (w.alloc (.cells #[.int .i64 0] 3)) 36 (.int .i64 0); rwa [World.size_alloc] at this⟩) hb1)
  have c4 := hS1.1.cell
  have f4 := hS1.1.frozen
  have c5 := hS1.2.cell
  have f5 := hS1.2.frozen
  have HS1 := Aside0.mk hS1
  have g5 : ∀ v, (w1.setCell ⟨w.heap.size, 0, none⟩ v).cell? ⟨w.heap.size + 1, 0, none⟩ = some (.int .i64 0) := fun v => (cell_far (by simp) v).trans c5
  have h5 : ∀ v, (w1.setCell ⟨w.heap.size, 0, none⟩ v).frozen? ⟨w.heap.size + 1, 0, none⟩ = false := fun v => by rw [World.frozen?_setCell]; exact f5
  clear hb1 hS1
  go_wp2
  have hrc := tl_RC.set (x' := 0) (y' := 150) HS1.out
  have k4 := hrc.1.cell
  have k5 := hrc.2.cell
  exact bodyPost_ret (v := .tuple #[.int .i64 0, .int .i64 150]) (by simp [results, Try.f20, go_sem, k4, k5]) rfl ⟨rfl, (HB1.out.setCell (p := ⟨w.heap.size, 0, none⟩) (Nat.le_refl _) _).setCell (p := ⟨w.heap.size + 1, 0, none⟩) (by simp) _⟩
theorem timeline_At.calls (A0 : Option Addr) (c0 : Nat) (l0 : List S25) (a1 : Int) (r1 r2 : Int) (w : World) (hr0 : Kd.C k25 w A0 l0.length l0) (hc0 : l0.length ≤ c0) (h : timeline_At.f l0 a1 = some (r1, r2)) :
    Calls Try.prog 20 #[.slice A0 l0.length c0, .int .i64 a1] w fun e w' => e = .returned (.tuple #[.int .i64 r1, .int .i64 r2]) ∧ Below w.heap.size w w' := by
  unfold timeline_At.f at h
  replace h := Option.some.inj h
  by_cases hc : tl_validB l0 = true
  · rw [if_pos hc] at h
    have e1 : r1 = (tl_atP l0 a1).1 := by rw [h]
    have e2 : r2 = (tl_atP l0 a1).2 := by rw [h]
    rw [e1, e2]
    exact callsIn_wide.1 (tl_at_in 6 (Nat.le_refl _) A0 c0 l0 a1 w hr0 hc0 hc)
  · rw [if_neg hc] at h
    obtain ⟨rfl, rfl⟩ := Prod.mk.inj h
    exact tl_at_no A0 c0 l0 a1 w hr0 hc0 (by simpa using hc)

end Go.Proofs.Ytbhngbjopfjacaa.PS15
