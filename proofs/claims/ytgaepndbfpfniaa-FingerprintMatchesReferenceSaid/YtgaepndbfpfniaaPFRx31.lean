-- PRINTED by print.py (a twelfth state) out of the translation. Not trusted: Lean checks it.
import Derived.Test.YtgaepndbfpfniaaPFRx0
import Derived.Test.YtgaepndbfpfniaaPFRx13
import Derived.Test.YtgaepndbfpfniaaPFRx23
import Derived.Test.YtgaepndbfpfniaaPFRx27
import Derived.Test.YtgaepndbfpfniaaPFRx29
namespace Go.Proofs.Ytgaepndbfpfniaa.PFR
open Go.RowKit Go.Proofs.YtgaepndbfpfniaaW.PrintWords Go.Proofs.YtgaepndbfpfniaaW.PrintLast Go.Proofs.YtgaepndbfpfniaaW.PrintMore
attribute [local go_sem] max2_int min2_int max_two min_two max_three min_three max_four min_four   -- for this text's walks alone
set_option linter.unusedVariables false
set_option linter.unusedSimpArgs false

/-! ### airchecklaw36_pick: function 33 -/
def airchecklaw36_pick.f (a0 : Int) (a1 : Int) : Option (Int) := if a0 < 0 then (if a1 = 0 then (none) else (some (Int.tmod (wrap64 (-(wrap64 (a0 + 1)))) a1))) else (if a1 = 0 then (none) else (some (Int.tmod a0 a1)))
set_option maxHeartbeats 8000000 in
set_option maxRecDepth 100000 in
theorem airchecklaw36_pick.calls (a0 : Int) (a1 : Int) (r : Int) (w : World) (h : airchecklaw36_pick.f a0 a1 = some r) :
  Calls Try.prog 33 #[.int .i64 a0, .int .i64 a1] w fun e w' => e = .returned (.int .i64 r) ∧ Drawn0 w w' := by
 have H : (if a0 < 0 then (if a1 = 0 then (none) else (some (Int.tmod (wrap64 (-(wrap64 (a0 + 1)))) a1))) else (if a1 = 0 then (none) else (some (Int.tmod a0 a1)))) = some r := h
 clear h
 by_cases c3 : a0 < 0
 ·rw [if_pos c3] at H
  have c3b0 : decide (a0 < 0) = true := decide_eq_true c3
  clear c3
  by_cases c4 : a1 = 0
  ·rw [if_pos c4] at H
   exact absurd H (by simp)
  ·rw [if_neg c4] at H
   have c4b0 : (a1 == 0) = false := beq_eq_false_iff_ne.mpr c4
   have c4b1 : (a1 != 0) = true := bne_iff_ne.mpr c4
   obtain rfl := Option.some.inj H
   go_enter Try.func33, Try.ntmps33
   go_wp2
   go_ret
   exact ⟨by first | rfl | (simp; done) | (simp [*]; done), by repeat (first | exact Drawn0.refl _ | apply Drawn0.step)⟩
 ·rw [if_neg c3] at H
  have c3b0 : decide (a0 < 0) = false := decide_eq_false c3
  clear c3
  by_cases c5 : a1 = 0
  ·rw [if_pos c5] at H
   exact absurd H (by simp)
  ·rw [if_neg c5] at H
   have c5b0 : (a1 == 0) = false := beq_eq_false_iff_ne.mpr c5
   have c5b1 : (a1 != 0) = true := bne_iff_ne.mpr c5
   obtain rfl := Option.some.inj H
   go_enter Try.func33, Try.ntmps33
   go_wp2
   go_ret
   exact ⟨by first | rfl | (simp; done) | (simp [*]; done), by repeat (first | exact Drawn0.refl _ | apply Drawn0.step)⟩

/-! ### aircheckref36_Best: function 35 -/
mutual
def aircheckref36_Best.j0 : Nat → List (S34) → List Int → Bool → Option (Int × Int × Int × Int × List Int × Int × Int)
 | 0, _, _, _ => none
 | k + 1, x0, x1, x31 => if x31 = true then (some (0, 0, 0, 0, ([] : List Int), 0, 360)) else (aircheckref36_Best.l0 k x0 x1 0 0)
def aircheckref36_Best.l0 : Nat → List (S34) → List Int → Int → Int → Option (Int × Int × Int × Int × List Int × Int × Int)
 | 0, _, _, _, _ => none
 | k + 1, x0, x1, x7, x8 => if x8 < (x0.length : Int) then (if 0 ≤ x8 then ((aircheckref36_Cost.f k x1 ((rd_T34 x0 x8).f1)).bind fun bt289 => (if 0 ≤ x7 then (if x7 < (x0.length : Int) then ((aircheckref36_Cost.f k x1 ((rd_T34 x0 x7).f1)).bind fun bt292 => (if bt289.1 < bt292.1 then (aircheckref36_Best.l0 k x0 x1 x8 (wrap64 (x8 + 1))) else (aircheckref36_Best.l0 k x0 x1 x7 (wrap64 (x8 + 1))))) else (none)) else (none))) else (none)) else (aircheckref36_Best.l1 k x0 x1 x7 (-1) 0)
def aircheckref36_Best.l1 : Nat → List (S34) → List Int → Int → Int → Int → Option (Int × Int × Int × Int × List Int × Int × Int)
 | 0, _, _, _, _, _ => none
 | k + 1, x0, x1, x7, x13, x14 => if x14 < (x0.length : Int) then (if 0 ≤ x14 then ((aircheckref36_Cost.f k x1 ((rd_T34 x0 x14).f1)).bind fun bt295 => (if x14 = x7 then (aircheckref36_Best.l1 k x0 x1 x7 x13 (wrap64 (x14 + 1))) else (if x13 < 0 then (aircheckref36_Best.l1 k x0 x1 x7 bt295.1 (wrap64 (x14 + 1))) else (if bt295.1 < x13 then (aircheckref36_Best.l1 k x0 x1 x7 bt295.1 (wrap64 (x14 + 1))) else (aircheckref36_Best.l1 k x0 x1 x7 x13 (wrap64 (x14 + 1))))))) else (none)) else (if 0 ≤ x7 then (if x7 < (x0.length : Int) then ((aircheckref36_Align.f k x1 ((rd_T34 x0 x7).f1)).bind fun bt298 => (some ((rd_T34 x0 x7).f0, bt298.2.1, bt298.2.2.1, bt298.2.2.2.1, bt298.2.2.2.2.1, x13, 0))) else (none)) else (none))
end
def aircheckref36_Best.f (k : Nat) (l0 : List (S34)) (l1 : List Int) : Option (Int × Int × Int × Int × List Int × Int × Int) := (aircheckref36_Valid.f k l0).bind fun t286 => (if t286 = true then ((aircheckref36_Heard.f k l1).bind fun t287 => (if t287 = true then (aircheckref36_Best.j0 k l0 l1 ((l0.length : Int) == 0)) else (aircheckref36_Best.j0 k l0 l1 true))) else (aircheckref36_Best.j0 k l0 l1 true))
set_option maxHeartbeats 8000000 in
set_option maxRecDepth 100000 in
theorem aircheckref36_Best.calls (k : Nat) (A0 : Option Addr) (c0 : Nat) (l0 : List (S34)) (A1 : Option Addr) (c1 : Nat) (l1 : List Int) (r1 : Int) (r2 : Int) (r3 : Int) (r4 : Int) (r5 : List Int) (r6 : Int) (r7 : Int) (w : World) (hr0 : Kd.C k34 w A0 l0.length l0) (hc0 : l0.length ≤ c0) (hr1 : Kd.C (Kd.int .i64) w A1 l1.length l1) (hc1 : l1.length ≤ c1) (h : aircheckref36_Best.f k l0 l1 = some (r1, r2, r3, r4, r5, r6, r7)) :
  Calls Try.prog 35 #[.slice A0 l0.length c0, .slice A1 l1.length c1] w fun e w' => ∃ v4_ : Value, e = .returned (.tuple #[.agg #[.int .i64 r1, .int .i64 r2, .int .i64 r3, .int .i64 r4, v4_], .int .i64 r6, .int .i64 r7]) ∧ Kd.R (Kd.int .i64) 3 w' w.heap.size (fun _ => True) v4_ r5 ∧ Below w.heap.size w w' := by
 have hu25 := Try.underlying25
 have HR0 := Aside0.mk hr0
 have HC0 := Aside0.mk hc0
 clear hr0 hc0
 have HR1 := Aside0.mk hr1
 have HC1 := Aside0.mk hc1
 clear hr1 hc1
 have HB := Aside0.mk (Below.refl w.heap.size w)
 have H : ((aircheckref36_Valid.f k l0).bind fun t286 => (if t286 = true then ((aircheckref36_Heard.f k l1).bind fun t287 => (if t287 = true then (aircheckref36_Best.j0 k l0 l1 ((l0.length : Int) == 0)) else (aircheckref36_Best.j0 k l0 l1 true))) else (aircheckref36_Best.j0 k l0 l1 true))) = some (r1, r2, r3, r4, r5, r6, r7) := h
 clear h
 have HC3 := Aside0.mk H
 clear H
 go_enter Try.func35, Try.ntmps35
 go_upto_region 1 with (first | ((with_reducible refine gate_dst (N := 4) rfl ?_); (try (refine gate_guard (by rfl) ?_; dsimp only)); refine box_event ?hg (N := 4) ?hd (cs := #[.int .i64 0, .int .i64 0, .int .i64 0, .int .i64 0, .slice none 0 0]) (t := 25) ?hr ?_; (case hd => rfl); (case hg => rfl); (case hr => first | (go_simp; done) | (go_simp; rfl)); intro gb285 hg w4 hbox hb; have n0_ := Aside0.mk (below_step (zW HB.out) hb); have n1_ := Aside0.mk (hbox); have n2_ := Aside0.mk ((by rw [hg]; exact (below_size (zW HB.out)) : w.heap.size ≤ gb285)); have n3_ := Aside0.mk ((by rw [hg]; exact (below_size (zW HB.out)) : w.heap.size ≤ gb285)); clear HB; have HB := n0_; have BK285 := n1_; have GW285 := n2_; have GE285 := n3_; clear n0_ n1_ n2_ n3_; clear hb hbox hg))
 (try simp only [Act.put, List.setIfInBounds_toArray, List.set_cons_zero, List.set_cons_succ])
 go_cut [31] (fun v31 wc => ∃ (kq : Nat) (x31_2 : Bool), v31 = .bool x31_2 ∧ Aside0 (aircheckref36_Best.j0 kq l0 l1 x31_2 = some (r1, r2, r3, r4, r5, r6, r7)) ∧ Aside0 (kq ≤ k) ∧ Aside0 (wc.heap[gb285]? = some (.cells #[.int .i64 0, .int .i64 0, .int .i64 0, .int .i64 0, (.slice none 0 0)] 25 (0, 0))) ∧ Aside0 (Below w.heap.size w wc))
 case first =>
  have H := HC3.out
  clear HC3
  replace H := Option.bind_eq_some_iff.mp H
  obtain ⟨t286, A50, H⟩ := H
  have A5 := Aside0.mk A50
  clear A50
  by_cases c6 : t286 = true
  ·subst c6
   rw [if_pos rfl] at H
   replace H := Option.bind_eq_some_iff.mp H
   obtain ⟨t287, A70, H⟩ := H
   have A7 := Aside0.mk A70
   clear A70
   by_cases c8 : t287 = true
   ·subst c8
    rw [if_pos rfl] at H
    have H' := Aside0.mk H
    clear H
    go_wp2_with (first | ((with_reducible refine gate_callee (f := 18) rfl ?_); refine goesL_ (some 20) rfl rfl Try.func18 (by kernel_rfl) rfl #[.slice A0 l0.length c0] rfl (by (try simp only [List.map_toArray, List.map_cons, List.map_nil]); first | done | rfl | (simp only [List.length_drop, List.length_take]; rfl)) ?_; (with_reducible refine (aircheckref36_Valid.calls k _ _ l0 true _ ?side1 ?side2 A5.out).mono ?_); (case side1 => exact zC (Kd.C_below HR0.out HB.out)); (case side2 => exact HC0.out); rintro e w9 ⟨rfl, hb⟩; refine ⟨_, rfl, ?_⟩; have n0_ := Aside0.mk (blk_below (g := gb285) (o := .cells #[.int .i64 0, .int .i64 0, .int .i64 0, .int .i64 0, .slice none 0 0] 25 (0, 0)) (zB BK285.out) hb); have n1_ := Aside0.mk (below_step (zX HB.out GE285.out) hb); clear BK285; clear HB; have BK285 := n0_; have HB := n1_; clear n0_ n1_; (try clear hb); (try clear hb2); (try clear hk); (try clear hi)) | (go_at_call 16; (with_reducible refine (aircheckref36_Heard.calls k _ _ l1 true _ ?side1 ?side2 A7.out).mono ?_); (case side1 => exact zC (Kd.C_below HR1.out HB.out)); (case side2 => exact HC1.out); rintro e w' ⟨rfl, ⟨nd, rfl⟩⟩))
    go_meet
    case rel => exact ⟨_, (((l0.length : Int) == 0)), zE, H', ⟨by first | omega | exact Nat.le_refl _⟩, ⟨zB BK285.out⟩, ⟨zX HB.out GE285.out⟩⟩
   ·replace c8 := Bool.eq_false_iff.mpr c8
    subst c8
    rw [if_neg (show ¬ (false = true) by decide)] at H
    have H' := Aside0.mk H
    clear H
    go_wp2_with (first | ((with_reducible refine gate_callee (f := 18) rfl ?_); refine goesL_ (some 20) rfl rfl Try.func18 (by kernel_rfl) rfl #[.slice A0 l0.length c0] rfl (by (try simp only [List.map_toArray, List.map_cons, List.map_nil]); first | done | rfl | (simp only [List.length_drop, List.length_take]; rfl)) ?_; (with_reducible refine (aircheckref36_Valid.calls k _ _ l0 true _ ?side1 ?side2 A5.out).mono ?_); (case side1 => exact zC (Kd.C_below HR0.out HB.out)); (case side2 => exact HC0.out); rintro e w10 ⟨rfl, hb⟩; refine ⟨_, rfl, ?_⟩; have n0_ := Aside0.mk (blk_below (g := gb285) (o := .cells #[.int .i64 0, .int .i64 0, .int .i64 0, .int .i64 0, .slice none 0 0] 25 (0, 0)) (zB BK285.out) hb); have n1_ := Aside0.mk (below_step (zX HB.out GE285.out) hb); clear BK285; clear HB; have BK285 := n0_; have HB := n1_; clear n0_ n1_; (try clear hb); (try clear hb2); (try clear hk); (try clear hi)) | (go_at_call 16; (with_reducible refine (aircheckref36_Heard.calls k _ _ l1 false _ ?side1 ?side2 A7.out).mono ?_); (case side1 => exact zC (Kd.C_below HR1.out HB.out)); (case side2 => exact HC1.out); rintro e w' ⟨rfl, ⟨nd, rfl⟩⟩))
    go_meet
    case rel => exact ⟨_, (true), zE, H', ⟨by first | omega | exact Nat.le_refl _⟩, ⟨zB BK285.out⟩, ⟨zX HB.out GE285.out⟩⟩
  ·replace c6 := Bool.eq_false_iff.mpr c6
   subst c6
   rw [if_neg (show ¬ (false = true) by decide)] at H
   have H' := Aside0.mk H
   clear H
   go_wp2_with (first | ((with_reducible refine gate_callee (f := 18) rfl ?_); refine goesL_ (some 20) rfl rfl Try.func18 (by kernel_rfl) rfl #[.slice A0 l0.length c0] rfl (by (try simp only [List.map_toArray, List.map_cons, List.map_nil]); first | done | rfl | (simp only [List.length_drop, List.length_take]; rfl)) ?_; (with_reducible refine (aircheckref36_Valid.calls k _ _ l0 false _ ?side1 ?side2 A5.out).mono ?_); (case side1 => exact zC (Kd.C_below HR0.out HB.out)); (case side2 => exact HC0.out); rintro e w11 ⟨rfl, hb⟩; refine ⟨_, rfl, ?_⟩; have n0_ := Aside0.mk (blk_below (g := gb285) (o := .cells #[.int .i64 0, .int .i64 0, .int .i64 0, .int .i64 0, .slice none 0 0] 25 (0, 0)) (zB BK285.out) hb); have n1_ := Aside0.mk (below_step (zX HB.out GE285.out) hb); clear BK285; clear HB; have BK285 := n0_; have HB := n1_; clear n0_ n1_; (try clear hb); (try clear hb2); (try clear hk); (try clear hi)))
   go_meet
   case rel => exact ⟨_, (true), zE, H', ⟨by first | omega | exact Nat.le_refl _⟩, ⟨zB BK285.out⟩, ⟨zX HB.out GE285.out⟩⟩
 case rest =>
  clear HC3
  (try clear c1); (try clear p2); (try clear c3); (try clear c6); (try clear c8)
  obtain ⟨kq, x31_2, rfl, HA, HJ2, BK285, HB⟩ := hcut
  cases kq with
  | zero => exact absurd HA.out (by simp [aircheckref36_Best.j0])
  | succ kj2 =>
   have H := HA.out
   clear HA
   simp only [aircheckref36_Best.j0] at H
   by_cases c12 : x31_2 = true
   ·subst c12
    rw [if_pos rfl] at H
    simp only [Option.some.injEq, Prod.mk.injEq] at H
    obtain ⟨rfl, rfl, rfl, rfl, rfl, rfl, rfl⟩ := H
    have hcz13_0 : wc.cell? ⟨gb285, 0, none⟩ = some (.int .i64 0) := (blk_cell BK285.out 0).trans rfl
    have hcz13_1 : wc.cell? ⟨gb285, 1, none⟩ = some (.int .i64 0) := (blk_cell BK285.out 1).trans rfl
    have hcz13_2 : wc.cell? ⟨gb285, 2, none⟩ = some (.int .i64 0) := (blk_cell BK285.out 2).trans rfl
    have hcz13_3 : wc.cell? ⟨gb285, 3, none⟩ = some (.int .i64 0) := (blk_cell BK285.out 3).trans rfl
    have hcz13_4 : wc.cell? ⟨gb285, 4, none⟩ = some (.slice none 0 0) := (blk_cell BK285.out 4).trans rfl
    have hfz13_0 := blk_frozen BK285.out 0
    have hfz13_1 := blk_frozen BK285.out 1
    have hfz13_2 := blk_frozen BK285.out 2
    have hfz13_3 := blk_frozen BK285.out 3
    have hfz13_4 := blk_frozen BK285.out 4
    go_wp2
    refine bodyPost_ret (results_ctt rfl _ _ gb285 25 #[.int .i64 0, .int .i64 0, .int .i64 0, .int .i64 0, .slice none 0 0] (0, 0) _ rfl (by (with_reducible repeat (first | refine blk_drewN ?_ _ | refine blk_drew ?_ | refine blk_alloc ?_ _)); refine blk_put (cs := #[.int .i64 0, .int .i64 0, .int .i64 0, .int .i64 0, .slice none 0 0]) ?_ 4 _ rfl; (with_reducible repeat (first | refine blk_drewN ?_ _ | refine blk_drew ?_ | refine blk_alloc ?_ _)); refine blk_put (cs := #[.int .i64 0, .int .i64 0, .int .i64 0, .int .i64 0, .slice none 0 0]) ?_ 3 _ rfl; (with_reducible repeat (first | refine blk_drewN ?_ _ | refine blk_drew ?_ | refine blk_alloc ?_ _)); refine blk_put (cs := #[.int .i64 0, .int .i64 0, .int .i64 0, .int .i64 0, .slice none 0 0]) ?_ 2 _ rfl; (with_reducible repeat (first | refine blk_drewN ?_ _ | refine blk_drew ?_ | refine blk_alloc ?_ _)); refine blk_put (cs := #[.int .i64 0, .int .i64 0, .int .i64 0, .int .i64 0, .slice none 0 0]) ?_ 1 _ rfl; (with_reducible repeat (first | refine blk_drewN ?_ _ | refine blk_drew ?_ | refine blk_alloc ?_ _)); refine blk_put (cs := #[.int .i64 0, .int .i64 0, .int .i64 0, .int .i64 0, .slice none 0 0]) ?_ 0 _ rfl; (with_reducible repeat (first | refine blk_drewN ?_ _ | refine blk_drew ?_ | refine blk_alloc ?_ _)); exact BK285.out) Try.underlying25 rfl (by kernel_rfl)) rfl ?_
    exact ⟨_, by first | rfl | (simp [errW_none, errW_some] <;> rfl) | (simp [*, errW_none, errW_some] <;> rfl), by first | exact Kd.R_nil _ _ _ _ _ | exact Kd.N_nil _ _ _ _ _ | exact Kd.V_nil _ _ _ _ _ | exact Kd.Q_nil _ _ _ _ _ | exact Kd.S_nil _ _ _ _ _, zX HB.out GE285.out⟩
   ·replace c12 := Bool.eq_false_iff.mpr c12
    subst c12
    rw [if_neg (show ¬ (false = true) by decide)] at H
    have H' := Aside0.mk H
    clear H
    go_wp2
    go_loopg [7, 8] kj2 (fun kq v7 v8 w' => ∃ (x7_2 : Int) (x8_2 : Int), v7 = .int .i64 x7_2 ∧ v8 = .int .i64 x8_2 ∧ Aside0 (aircheckref36_Best.l0 kq l0 l1 x7_2 x8_2 = some (r1, r2, r3, r4, r5, r6, r7)) ∧ Aside0 (kq ≤ kj2) ∧ Aside0 (w'.heap[gb285]? = some (.cells #[.int .i64 0, .int .i64 0, .int .i64 0, .int .i64 0, (.slice none 0 0)] 25 (0, 0))) ∧ Aside0 (Below w.heap.size w w'))
    case atStart => exact ⟨(0), (0), zE, zE, H', ⟨Nat.le_refl _⟩, ⟨zB BK285.out⟩, ⟨zX HB.out GE285.out⟩⟩
    case round =>
     clear H'
     (try clear c1); (try clear p2); (try clear c3); (try clear c6); (try clear c8); (try clear c12); (try clear hcz13_0 hcz13_1 hcz13_2 hcz13_3 hcz13_4); (try clear hfz13_0 hfz13_1 hfz13_2 hfz13_3 hfz13_4)
     obtain ⟨x7_2, x8_2, rfl, rfl, HA, HK2, BK285, HB⟩ := hrel
     cases gk with
     | zero => exact absurd HA.out (by simp [aircheckref36_Best.l0])
     | succ k2 =>
      have H := HA.out
      clear HA
      simp only [aircheckref36_Best.l0] at H
      by_cases c14 : x8_2 < (l0.length : Int)
      ·rw [if_pos c14] at H
       have c14b0 : decide (x8_2 < (l0.length : Int)) = true := decide_eq_true c14
       clear c14
       by_cases c15 : 0 ≤ x8_2
       ·rw [if_pos c15] at H
        have c15b0 : decide (0 ≤ x8_2) = true := decide_eq_true c15
        clear c15
        replace H := Option.bind_eq_some_iff.mp H
        obtain ⟨⟨t289, t290⟩, A160, H⟩ := H
        replace H : (if 0 ≤ x7_2 then (if x7_2 < (l0.length : Int) then ((aircheckref36_Cost.f k2 l1 ((rd_T34 l0 x7_2).f1)).bind fun bt292 => (if t289 < bt292.1 then (aircheckref36_Best.l0 k2 l0 l1 x8_2 (wrap64 (x8_2 + 1))) else (aircheckref36_Best.l0 k2 l0 l1 x7_2 (wrap64 (x8_2 + 1))))) else (none)) else (none)) = some (r1, r2, r3, r4, r5, r6, r7) := H
        have A16 := Aside0.mk A160
        clear A160
        by_cases c17 : 0 ≤ x7_2
        ·rw [if_pos c17] at H
         have c17b0 : decide (0 ≤ x7_2) = true := decide_eq_true c17
         clear c17
         by_cases c18 : x7_2 < (l0.length : Int)
         ·rw [if_pos c18] at H
          have c18b0 : decide (x7_2 < (l0.length : Int)) = true := decide_eq_true c18
          clear c18
          replace H := Option.bind_eq_some_iff.mp H
          obtain ⟨⟨t292, t293⟩, A190, H⟩ := H
          replace H : (if t289 < t292 then (aircheckref36_Best.l0 k2 l0 l1 x8_2 (wrap64 (x8_2 + 1))) else (aircheckref36_Best.l0 k2 l0 l1 x7_2 (wrap64 (x8_2 + 1)))) = some (r1, r2, r3, r4, r5, r6, r7) := H
          have A19 := Aside0.mk A190
          clear A190
          by_cases c20 : t289 < t292
          ·rw [if_pos c20] at H
           have c20b0 : decide (t289 < t292) = true := decide_eq_true c20
           clear c20
           have H' := Aside0.mk H
           clear H
           have p288 : 0 ≤ (x8_2 : Int) := of_decide_eq_true zA
           have q288 : x8_2 < (l0.length : Int) := of_decide_eq_true zA
           obtain ⟨ad288, A288_1, c288_1, e288, hx288_0, hx288_1, hl288_1, hi288_1⟩ := at_T34 HR0.out x8_2 p288 q288
           cases e288
           replace hx288_0 := (HB.out.cell (World.block_lt_of_cell? w _ hx288_0)).trans hx288_0
           replace hx288_1 := (HB.out.cell (World.block_lt_of_cell? w _ hx288_1)).trans hx288_1
           have HR288_1 := Aside0.mk hi288_1
           have HC288_1 := Aside0.mk hl288_1
           clear hi288_1 hl288_1
           replace p288 := eq_true p288
           replace q288 := eq_true q288
           go_wp2_with (first | ((with_reducible refine gate_callee (f := 22) rfl ?_); refine goesL_ (some 46) rfl rfl Try.func22 (by kernel_rfl) rfl #[.slice A1 l1.length c1, .slice A288_1 ((rd_T34 l0 x8_2).f1).length c288_1] rfl (by (try simp only [List.map_toArray, List.map_cons, List.map_nil]); first | done | rfl | (simp only [List.length_drop, List.length_take]; rfl)) ?_; (with_reducible refine (aircheckref36_Cost.calls k2 _ _ l1 _ _ ((rd_T34 l0 x8_2).f1) t289 t290 _ ?side1 ?side2 ?side3 ?side4 A16.out).mono ?_); (case side1 => exact zC (Kd.C_below HR1.out HB.out)); (case side2 => exact HC1.out); (case side3 => exact zC (Kd.C_below HR288_1.out HB.out)); (case side4 => exact HC288_1.out); rintro e w21 ⟨rfl, hb⟩; refine ⟨_, rfl, ?_⟩; have n0_ := Aside0.mk (blk_below (g := gb285) (o := .cells #[.int .i64 0, .int .i64 0, .int .i64 0, .int .i64 0, .slice none 0 0] 25 (0, 0)) (zB BK285.out) hb); have n1_ := Aside0.mk (below_step (zX HB.out GE285.out) hb); clear BK285; clear HB; have BK285 := n0_; have HB := n1_; clear n0_ n1_; (try clear hb); (try clear hb2); (try clear hk); (try clear hi); have p291 : 0 ≤ (x7_2 : Int) := of_decide_eq_true zA; have q291 : x7_2 < (l0.length : Int) := of_decide_eq_true zA; obtain ⟨ad291, A291_1, c291_1, e291, hx291_0, hx291_1, hl291_1, hi291_1⟩ := at_T34 HR0.out x7_2 p291 q291; obtain rfl : ad288 = ad291 := (by injection e291); replace hx291_0 := (HB.out.cell (World.block_lt_of_cell? w _ hx291_0)).trans hx291_0; replace hx291_1 := (HB.out.cell (World.block_lt_of_cell? w _ hx291_1)).trans hx291_1; have HR291_1 := Aside0.mk hi291_1; have HC291_1 := Aside0.mk hl291_1; clear hi291_1 hl291_1; replace p291 := eq_true p291; replace q291 := eq_true q291) | ((with_reducible refine gate_callee (f := 22) rfl ?_); refine goesL_ (some 56) rfl rfl Try.func22 (by kernel_rfl) rfl #[.slice A1 l1.length c1, .slice A291_1 ((rd_T34 l0 x7_2).f1).length c291_1] rfl (by (try simp only [List.map_toArray, List.map_cons, List.map_nil]); first | done | rfl | (simp only [List.length_drop, List.length_take]; rfl)) ?_; (with_reducible refine (aircheckref36_Cost.calls k2 _ _ l1 _ _ ((rd_T34 l0 x7_2).f1) t292 t293 _ ?side1 ?side2 ?side3 ?side4 A19.out).mono ?_); (case side1 => exact zC (Kd.C_below HR1.out HB.out)); (case side2 => exact HC1.out); (case side3 => exact zC (Kd.C_below HR291_1.out HB.out)); (case side4 => exact HC291_1.out); rintro e w22 ⟨rfl, hb⟩; refine ⟨_, rfl, ?_⟩; have n0_ := Aside0.mk (blk_below (g := gb285) (o := .cells #[.int .i64 0, .int .i64 0, .int .i64 0, .int .i64 0, .slice none 0 0] 25 (0, 0)) (zB BK285.out) hb); have n1_ := Aside0.mk (below_step (zX HB.out GE285.out) hb); clear BK285; clear HB; have BK285 := n0_; have HB := n1_; clear n0_ n1_; (try clear hb); (try clear hb2); (try clear hk); (try clear hi)))
           go_roundg k2
           case measure => have := HJ2.out; have := HK2.out; omega
           case rel => exact ⟨(x8_2), (wrap64 (x8_2 + 1)), zE, zE, H', ⟨by have := HJ2.out; have := HK2.out; omega⟩, ⟨zB BK285.out⟩, ⟨zX HB.out GE285.out⟩⟩
          ·rw [if_neg c20] at H
           have c20b0 : decide (t289 < t292) = false := decide_eq_false c20
           clear c20
           have H' := Aside0.mk H
           clear H
           have p288 : 0 ≤ (x8_2 : Int) := of_decide_eq_true zA
           have q288 : x8_2 < (l0.length : Int) := of_decide_eq_true zA
           obtain ⟨ad288, A288_1, c288_1, e288, hx288_0, hx288_1, hl288_1, hi288_1⟩ := at_T34 HR0.out x8_2 p288 q288
           cases e288
           replace hx288_0 := (HB.out.cell (World.block_lt_of_cell? w _ hx288_0)).trans hx288_0
           replace hx288_1 := (HB.out.cell (World.block_lt_of_cell? w _ hx288_1)).trans hx288_1
           have HR288_1 := Aside0.mk hi288_1
           have HC288_1 := Aside0.mk hl288_1
           clear hi288_1 hl288_1
           replace p288 := eq_true p288
           replace q288 := eq_true q288
           go_wp2_with (first | ((with_reducible refine gate_callee (f := 22) rfl ?_); refine goesL_ (some 46) rfl rfl Try.func22 (by kernel_rfl) rfl #[.slice A1 l1.length c1, .slice A288_1 ((rd_T34 l0 x8_2).f1).length c288_1] rfl (by (try simp only [List.map_toArray, List.map_cons, List.map_nil]); first | done | rfl | (simp only [List.length_drop, List.length_take]; rfl)) ?_; (with_reducible refine (aircheckref36_Cost.calls k2 _ _ l1 _ _ ((rd_T34 l0 x8_2).f1) t289 t290 _ ?side1 ?side2 ?side3 ?side4 A16.out).mono ?_); (case side1 => exact zC (Kd.C_below HR1.out HB.out)); (case side2 => exact HC1.out); (case side3 => exact zC (Kd.C_below HR288_1.out HB.out)); (case side4 => exact HC288_1.out); rintro e w23 ⟨rfl, hb⟩; refine ⟨_, rfl, ?_⟩; have n0_ := Aside0.mk (blk_below (g := gb285) (o := .cells #[.int .i64 0, .int .i64 0, .int .i64 0, .int .i64 0, .slice none 0 0] 25 (0, 0)) (zB BK285.out) hb); have n1_ := Aside0.mk (below_step (zX HB.out GE285.out) hb); clear BK285; clear HB; have BK285 := n0_; have HB := n1_; clear n0_ n1_; (try clear hb); (try clear hb2); (try clear hk); (try clear hi); have p291 : 0 ≤ (x7_2 : Int) := of_decide_eq_true zA; have q291 : x7_2 < (l0.length : Int) := of_decide_eq_true zA; obtain ⟨ad291, A291_1, c291_1, e291, hx291_0, hx291_1, hl291_1, hi291_1⟩ := at_T34 HR0.out x7_2 p291 q291; obtain rfl : ad288 = ad291 := (by injection e291); replace hx291_0 := (HB.out.cell (World.block_lt_of_cell? w _ hx291_0)).trans hx291_0; replace hx291_1 := (HB.out.cell (World.block_lt_of_cell? w _ hx291_1)).trans hx291_1; have HR291_1 := Aside0.mk hi291_1; have HC291_1 := Aside0.mk hl291_1; clear hi291_1 hl291_1; replace p291 := eq_true p291; replace q291 := eq_true q291) | ((with_reducible refine gate_callee (f := 22) rfl ?_); refine goesL_ (some 56) rfl rfl Try.func22 (by kernel_rfl) rfl #[.slice A1 l1.length c1, .slice A291_1 ((rd_T34 l0 x7_2).f1).length c291_1] rfl (by (try simp only [List.map_toArray, List.map_cons, List.map_nil]); first | done | rfl | (simp only [List.length_drop, List.length_take]; rfl)) ?_; (with_reducible refine (aircheckref36_Cost.calls k2 _ _ l1 _ _ ((rd_T34 l0 x7_2).f1) t292 t293 _ ?side1 ?side2 ?side3 ?side4 A19.out).mono ?_); (case side1 => exact zC (Kd.C_below HR1.out HB.out)); (case side2 => exact HC1.out); (case side3 => exact zC (Kd.C_below HR291_1.out HB.out)); (case side4 => exact HC291_1.out); rintro e w24 ⟨rfl, hb⟩; refine ⟨_, rfl, ?_⟩; have n0_ := Aside0.mk (blk_below (g := gb285) (o := .cells #[.int .i64 0, .int .i64 0, .int .i64 0, .int .i64 0, .slice none 0 0] 25 (0, 0)) (zB BK285.out) hb); have n1_ := Aside0.mk (below_step (zX HB.out GE285.out) hb); clear BK285; clear HB; have BK285 := n0_; have HB := n1_; clear n0_ n1_; (try clear hb); (try clear hb2); (try clear hk); (try clear hi)))
           go_roundg k2
           case measure => have := HJ2.out; have := HK2.out; omega
           case rel => exact ⟨(x7_2), (wrap64 (x8_2 + 1)), zE, zE, H', ⟨by have := HJ2.out; have := HK2.out; omega⟩, ⟨zB BK285.out⟩, ⟨zX HB.out GE285.out⟩⟩
         ·rw [if_neg c18] at H
          exact absurd H (by simp)
        ·rw [if_neg c17] at H
         exact absurd H (by simp)
       ·rw [if_neg c15] at H
        exact absurd H (by simp)
      ·rw [if_neg c14] at H
       have c14b0 : decide (x8_2 < (l0.length : Int)) = false := decide_eq_false c14
       clear c14
       have H' := Aside0.mk H
       clear H
       go_wp2
       go_loopg [13, 14] k2 (fun kq v13 v14 w' => ∃ (x13_3 : Int) (x14_3 : Int), v13 = .int .i64 x13_3 ∧ v14 = .int .i64 x14_3 ∧ Aside0 (aircheckref36_Best.l1 kq l0 l1 x7_2 x13_3 x14_3 = some (r1, r2, r3, r4, r5, r6, r7)) ∧ Aside0 (kq ≤ k2) ∧ Aside0 (w'.heap[gb285]? = some (.cells #[.int .i64 0, .int .i64 0, .int .i64 0, .int .i64 0, (.slice none 0 0)] 25 (0, 0))) ∧ Aside0 (Below w.heap.size w w'))
       case atStart => exact ⟨((-1)), (0), zE, zE, H', ⟨Nat.le_refl _⟩, ⟨zB BK285.out⟩, ⟨zX HB.out GE285.out⟩⟩
       case round =>
        clear H'
        (try clear c1); (try clear c2); (try clear p2); (try clear q2); (try clear hx2); (try clear c3); (try clear c6); (try clear p6); (try clear c8); (try clear c12); (try clear c14); (try clear c14b0); (try clear c15); (try clear c15b0); (try clear c17); (try clear c17b0); (try clear c18); (try clear c18b0); (try clear c20); (try clear c20b0); (try clear c22); (try clear hcz13_0 hcz13_1 hcz13_2 hcz13_3 hcz13_4); (try clear hfz13_0 hfz13_1 hfz13_2 hfz13_3 hfz13_4); (try clear hx288_0); (try clear hx288_1); (try clear hx291_0); (try clear hx291_1); (try clear p288); (try clear p291); (try clear q288); (try clear q291)
        obtain ⟨x13_3, x14_3, rfl, rfl, HA, HK3, BK285, HB⟩ := hrel
        cases gk with
        | zero => exact absurd HA.out (by simp [aircheckref36_Best.l1])
        | succ k3 =>
         have H := HA.out
         clear HA
         simp only [aircheckref36_Best.l1] at H
         by_cases c25 : x14_3 < (l0.length : Int)
         ·rw [if_pos c25] at H
          have c25b0 : decide (x14_3 < (l0.length : Int)) = true := decide_eq_true c25
          clear c25
          by_cases c26 : 0 ≤ x14_3
          ·rw [if_pos c26] at H
           have c26b0 : decide (0 ≤ x14_3) = true := decide_eq_true c26
           clear c26
           replace H := Option.bind_eq_some_iff.mp H
           obtain ⟨⟨t295, t296⟩, A270, H⟩ := H
           replace H : (if x14_3 = x7_2 then (aircheckref36_Best.l1 k3 l0 l1 x7_2 x13_3 (wrap64 (x14_3 + 1))) else (if x13_3 < 0 then (aircheckref36_Best.l1 k3 l0 l1 x7_2 t295 (wrap64 (x14_3 + 1))) else (if t295 < x13_3 then (aircheckref36_Best.l1 k3 l0 l1 x7_2 t295 (wrap64 (x14_3 + 1))) else (aircheckref36_Best.l1 k3 l0 l1 x7_2 x13_3 (wrap64 (x14_3 + 1)))))) = some (r1, r2, r3, r4, r5, r6, r7) := H
           have A27 := Aside0.mk A270
           clear A270
           by_cases c28 : x14_3 = x7_2
           ·rw [if_pos c28] at H
            have c28b0 : (x14_3 == x7_2) = true := beq_iff_eq.mpr c28
            have c28b1 : (x14_3 != x7_2) = false := bne_eq_false_iff_eq.mpr c28
            clear c28
            have H' := Aside0.mk H
            clear H
            have p294 : 0 ≤ (x14_3 : Int) := of_decide_eq_true zA
            have q294 : x14_3 < (l0.length : Int) := of_decide_eq_true zA
            obtain ⟨ad294, A294_1, c294_1, e294, hx294_0, hx294_1, hl294_1, hi294_1⟩ := at_T34 HR0.out x14_3 p294 q294
            cases e294
            replace hx294_0 := (HB.out.cell (World.block_lt_of_cell? w _ hx294_0)).trans hx294_0
            replace hx294_1 := (HB.out.cell (World.block_lt_of_cell? w _ hx294_1)).trans hx294_1
            have HR294_1 := Aside0.mk hi294_1
            have HC294_1 := Aside0.mk hl294_1
            clear hi294_1 hl294_1
            replace p294 := eq_true p294
            replace q294 := eq_true q294
            go_wp2_with (first | ((with_reducible refine gate_callee (f := 22) rfl ?_); refine goesL_ (some 76) rfl rfl Try.func22 (by kernel_rfl) rfl #[.slice A1 l1.length c1, .slice A294_1 ((rd_T34 l0 x14_3).f1).length c294_1] rfl (by (try simp only [List.map_toArray, List.map_cons, List.map_nil]); first | done | rfl | (simp only [List.length_drop, List.length_take]; rfl)) ?_; (with_reducible refine (aircheckref36_Cost.calls k3 _ _ l1 _ _ ((rd_T34 l0 x14_3).f1) t295 t296 _ ?side1 ?side2 ?side3 ?side4 A27.out).mono ?_); (case side1 => exact zC (Kd.C_below HR1.out HB.out)); (case side2 => exact HC1.out); (case side3 => exact zC (Kd.C_below HR294_1.out HB.out)); (case side4 => exact HC294_1.out); rintro e w29 ⟨rfl, hb⟩; refine ⟨_, rfl, ?_⟩; have n0_ := Aside0.mk (blk_below (g := gb285) (o := .cells #[.int .i64 0, .int .i64 0, .int .i64 0, .int .i64 0, .slice none 0 0] 25 (0, 0)) (zB BK285.out) hb); have n1_ := Aside0.mk (below_step (zX HB.out GE285.out) hb); clear BK285; clear HB; have BK285 := n0_; have HB := n1_; clear n0_ n1_; (try clear hb); (try clear hb2); (try clear hk); (try clear hi)))
            go_roundg k3
            case measure => have := HJ2.out; have := HK2.out; have := HK3.out; omega
            case rel => exact ⟨(x13_3), (wrap64 (x14_3 + 1)), zE, zE, H', ⟨by have := HJ2.out; have := HK2.out; have := HK3.out; omega⟩, ⟨zB BK285.out⟩, ⟨zX HB.out GE285.out⟩⟩
           ·rw [if_neg c28] at H
            have c28b0 : (x14_3 == x7_2) = false := beq_eq_false_iff_ne.mpr c28
            have c28b1 : (x14_3 != x7_2) = true := bne_iff_ne.mpr c28
            by_cases c30 : x13_3 < 0
            ·rw [if_pos c30] at H
             have c30b0 : decide (x13_3 < 0) = true := decide_eq_true c30
             clear c30
             have H' := Aside0.mk H
             clear H
             have p294 : 0 ≤ (x14_3 : Int) := of_decide_eq_true zA
             have q294 : x14_3 < (l0.length : Int) := of_decide_eq_true zA
             obtain ⟨ad294, A294_1, c294_1, e294, hx294_0, hx294_1, hl294_1, hi294_1⟩ := at_T34 HR0.out x14_3 p294 q294
             cases e294
             replace hx294_0 := (HB.out.cell (World.block_lt_of_cell? w _ hx294_0)).trans hx294_0
             replace hx294_1 := (HB.out.cell (World.block_lt_of_cell? w _ hx294_1)).trans hx294_1
             have HR294_1 := Aside0.mk hi294_1
             have HC294_1 := Aside0.mk hl294_1
             clear hi294_1 hl294_1
             replace p294 := eq_true p294
             replace q294 := eq_true q294
             go_wp2_with (first | ((with_reducible refine gate_callee (f := 22) rfl ?_); refine goesL_ (some 76) rfl rfl Try.func22 (by kernel_rfl) rfl #[.slice A1 l1.length c1, .slice A294_1 ((rd_T34 l0 x14_3).f1).length c294_1] rfl (by (try simp only [List.map_toArray, List.map_cons, List.map_nil]); first | done | rfl | (simp only [List.length_drop, List.length_take]; rfl)) ?_; (with_reducible refine (aircheckref36_Cost.calls k3 _ _ l1 _ _ ((rd_T34 l0 x14_3).f1) t295 t296 _ ?side1 ?side2 ?side3 ?side4 A27.out).mono ?_); (case side1 => exact zC (Kd.C_below HR1.out HB.out)); (case side2 => exact HC1.out); (case side3 => exact zC (Kd.C_below HR294_1.out HB.out)); (case side4 => exact HC294_1.out); rintro e w31 ⟨rfl, hb⟩; refine ⟨_, rfl, ?_⟩; have n0_ := Aside0.mk (blk_below (g := gb285) (o := .cells #[.int .i64 0, .int .i64 0, .int .i64 0, .int .i64 0, .slice none 0 0] 25 (0, 0)) (zB BK285.out) hb); have n1_ := Aside0.mk (below_step (zX HB.out GE285.out) hb); clear BK285; clear HB; have BK285 := n0_; have HB := n1_; clear n0_ n1_; (try clear hb); (try clear hb2); (try clear hk); (try clear hi)))
             go_roundg k3
             case measure => have := HJ2.out; have := HK2.out; have := HK3.out; omega
             case rel => exact ⟨(t295), (wrap64 (x14_3 + 1)), zE, zE, H', ⟨by have := HJ2.out; have := HK2.out; have := HK3.out; omega⟩, ⟨zB BK285.out⟩, ⟨zX HB.out GE285.out⟩⟩
            ·rw [if_neg c30] at H
             have c30b0 : decide (x13_3 < 0) = false := decide_eq_false c30
             clear c30
             by_cases c32 : t295 < x13_3
             ·rw [if_pos c32] at H
              have c32b0 : decide (t295 < x13_3) = true := decide_eq_true c32
              clear c32
              have H' := Aside0.mk H
              clear H
              have p294 : 0 ≤ (x14_3 : Int) := of_decide_eq_true zA
              have q294 : x14_3 < (l0.length : Int) := of_decide_eq_true zA
              obtain ⟨ad294, A294_1, c294_1, e294, hx294_0, hx294_1, hl294_1, hi294_1⟩ := at_T34 HR0.out x14_3 p294 q294
              cases e294
              replace hx294_0 := (HB.out.cell (World.block_lt_of_cell? w _ hx294_0)).trans hx294_0
              replace hx294_1 := (HB.out.cell (World.block_lt_of_cell? w _ hx294_1)).trans hx294_1
              have HR294_1 := Aside0.mk hi294_1
              have HC294_1 := Aside0.mk hl294_1
              clear hi294_1 hl294_1
              replace p294 := eq_true p294
              replace q294 := eq_true q294
              go_wp2_with (first | ((with_reducible refine gate_callee (f := 22) rfl ?_); refine goesL_ (some 76) rfl rfl Try.func22 (by kernel_rfl) rfl #[.slice A1 l1.length c1, .slice A294_1 ((rd_T34 l0 x14_3).f1).length c294_1] rfl (by (try simp only [List.map_toArray, List.map_cons, List.map_nil]); first | done | rfl | (simp only [List.length_drop, List.length_take]; rfl)) ?_; (with_reducible refine (aircheckref36_Cost.calls k3 _ _ l1 _ _ ((rd_T34 l0 x14_3).f1) t295 t296 _ ?side1 ?side2 ?side3 ?side4 A27.out).mono ?_); (case side1 => exact zC (Kd.C_below HR1.out HB.out)); (case side2 => exact HC1.out); (case side3 => exact zC (Kd.C_below HR294_1.out HB.out)); (case side4 => exact HC294_1.out); rintro e w33 ⟨rfl, hb⟩; refine ⟨_, rfl, ?_⟩; have n0_ := Aside0.mk (blk_below (g := gb285) (o := .cells #[.int .i64 0, .int .i64 0, .int .i64 0, .int .i64 0, .slice none 0 0] 25 (0, 0)) (zB BK285.out) hb); have n1_ := Aside0.mk (below_step (zX HB.out GE285.out) hb); clear BK285; clear HB; have BK285 := n0_; have HB := n1_; clear n0_ n1_; (try clear hb); (try clear hb2); (try clear hk); (try clear hi)))
              go_roundg k3
              case measure => have := HJ2.out; have := HK2.out; have := HK3.out; omega
              case rel => exact ⟨(t295), (wrap64 (x14_3 + 1)), zE, zE, H', ⟨by have := HJ2.out; have := HK2.out; have := HK3.out; omega⟩, ⟨zB BK285.out⟩, ⟨zX HB.out GE285.out⟩⟩
             ·rw [if_neg c32] at H
              have c32b0 : decide (t295 < x13_3) = false := decide_eq_false c32
              clear c32
              have H' := Aside0.mk H
              clear H
              have p294 : 0 ≤ (x14_3 : Int) := of_decide_eq_true zA
              have q294 : x14_3 < (l0.length : Int) := of_decide_eq_true zA
              obtain ⟨ad294, A294_1, c294_1, e294, hx294_0, hx294_1, hl294_1, hi294_1⟩ := at_T34 HR0.out x14_3 p294 q294
              cases e294
              replace hx294_0 := (HB.out.cell (World.block_lt_of_cell? w _ hx294_0)).trans hx294_0
              replace hx294_1 := (HB.out.cell (World.block_lt_of_cell? w _ hx294_1)).trans hx294_1
              have HR294_1 := Aside0.mk hi294_1
              have HC294_1 := Aside0.mk hl294_1
              clear hi294_1 hl294_1
              replace p294 := eq_true p294
              replace q294 := eq_true q294
              go_wp2_with (first | ((with_reducible refine gate_callee (f := 22) rfl ?_); refine goesL_ (some 76) rfl rfl Try.func22 (by kernel_rfl) rfl #[.slice A1 l1.length c1, .slice A294_1 ((rd_T34 l0 x14_3).f1).length c294_1] rfl (by (try simp only [List.map_toArray, List.map_cons, List.map_nil]); first | done | rfl | (simp only [List.length_drop, List.length_take]; rfl)) ?_; (with_reducible refine (aircheckref36_Cost.calls k3 _ _ l1 _ _ ((rd_T34 l0 x14_3).f1) t295 t296 _ ?side1 ?side2 ?side3 ?side4 A27.out).mono ?_); (case side1 => exact zC (Kd.C_below HR1.out HB.out)); (case side2 => exact HC1.out); (case side3 => exact zC (Kd.C_below HR294_1.out HB.out)); (case side4 => exact HC294_1.out); rintro e w34 ⟨rfl, hb⟩; refine ⟨_, rfl, ?_⟩; have n0_ := Aside0.mk (blk_below (g := gb285) (o := .cells #[.int .i64 0, .int .i64 0, .int .i64 0, .int .i64 0, .slice none 0 0] 25 (0, 0)) (zB BK285.out) hb); have n1_ := Aside0.mk (below_step (zX HB.out GE285.out) hb); clear BK285; clear HB; have BK285 := n0_; have HB := n1_; clear n0_ n1_; (try clear hb); (try clear hb2); (try clear hk); (try clear hi)))
              go_roundg k3
              case measure => have := HJ2.out; have := HK2.out; have := HK3.out; omega
              case rel => exact ⟨(x13_3), (wrap64 (x14_3 + 1)), zE, zE, H', ⟨by have := HJ2.out; have := HK2.out; have := HK3.out; omega⟩, ⟨zB BK285.out⟩, ⟨zX HB.out GE285.out⟩⟩
          ·rw [if_neg c26] at H
           exact absurd H (by simp)
         ·rw [if_neg c25] at H
          have c25b0 : decide (x14_3 < (l0.length : Int)) = false := decide_eq_false c25
          clear c25
          by_cases c35 : 0 ≤ x7_2
          ·rw [if_pos c35] at H
           have c35b0 : decide (0 ≤ x7_2) = true := decide_eq_true c35
           clear c35
           by_cases c36 : x7_2 < (l0.length : Int)
           ·rw [if_pos c36] at H
            have c36b0 : decide (x7_2 < (l0.length : Int)) = true := decide_eq_true c36
            clear c36
            replace H := Option.bind_eq_some_iff.mp H
            obtain ⟨⟨t298, t299, t300, t301, t302, t305⟩, A370, H⟩ := H
            replace H : (some ((rd_T34 l0 x7_2).f0, t299, t300, t301, t302, x13_3, 0)) = some (r1, r2, r3, r4, r5, r6, r7) := H
            have A37 := Aside0.mk A370
            clear A370
            simp only [Option.some.injEq, Prod.mk.injEq] at H
            obtain ⟨rfl, rfl, rfl, rfl, rfl, rfl, rfl⟩ := H
            have p297 : 0 ≤ (x7_2 : Int) := of_decide_eq_true zA
            have q297 : x7_2 < (l0.length : Int) := of_decide_eq_true zA
            obtain ⟨ad297, A297_1, c297_1, e297, hx297_0, hx297_1, hl297_1, hi297_1⟩ := at_T34 HR0.out x7_2 p297 q297
            cases e297
            replace hx297_0 := (HB.out.cell (World.block_lt_of_cell? w _ hx297_0)).trans hx297_0
            replace hx297_1 := (HB.out.cell (World.block_lt_of_cell? w _ hx297_1)).trans hx297_1
            have HR297_1 := Aside0.mk hi297_1
            have HC297_1 := Aside0.mk hl297_1
            clear hi297_1 hl297_1
            replace p297 := eq_true p297
            replace q297 := eq_true q297
            go_wp2_with (first | ((with_reducible refine gate_callee (f := 24) rfl ?_); refine goesL_ (some 99) rfl rfl Try.func24 (by kernel_rfl) rfl #[.slice A1 l1.length c1, .slice A297_1 ((rd_T34 l0 x7_2).f1).length c297_1] rfl (by (try simp only [List.map_toArray, List.map_cons, List.map_nil]); first | done | rfl | (simp only [List.length_drop, List.length_take]; rfl)) ?_; (with_reducible refine (aircheckref36_Align.calls k3 _ _ l1 _ _ ((rd_T34 l0 x7_2).f1) t298 t299 t300 t301 t302 t305 _ ?side1 ?side2 ?side3 ?side4 A37.out).mono ?_); (case side1 => exact zC (Kd.C_below HR1.out HB.out)); (case side2 => exact HC1.out); (case side3 => exact zC (Kd.C_below HR297_1.out HB.out)); (case side4 => exact HC297_1.out); rintro e w38 ⟨v303, rfl, ho0, hb⟩; refine ⟨_, rfl, ?_⟩; have n0_ := Aside0.mk (Kd.R_lower ho0 (below_size (zX HB.out GE285.out))); have n1_ := Aside0.mk (blk_below (g := gb285) (o := .cells #[.int .i64 0, .int .i64 0, .int .i64 0, .int .i64 0, .slice none 0 0] 25 (0, 0)) (zB BK285.out) hb); have n2_ := Aside0.mk (below_step (zX HB.out GE285.out) hb); clear BK285; clear HB; have HO304 := n0_; have BK285 := n1_; have HB := n2_; clear n0_ n1_ n2_; (try clear hb); (try clear hb2); (try clear hk); (try clear hi); (try clear ho0)) | ((with_reducible refine gate_dst (N := 17) rfl ?_); (try (refine gate_guard (by rfl) ?_; dsimp only)); refine box_event ?hg (N := 17) ?hd (cs := #[.int .i64 0, .int .i64 0, .int .i64 0, .int .i64 0, .slice none 0 0]) (t := 25) ?hr ?_; (case hd => rfl); (case hg => rfl); (case hr => first | (go_simp; done) | (go_simp; rfl)); intro gb306 hg w39 hbox hb; have n0_ := Aside0.mk (Kd.R_below (zR HO304.out) hb); have n1_ := Aside0.mk (blk_below (g := gb285) (o := .cells #[.int .i64 0, .int .i64 0, .int .i64 0, .int .i64 0, .slice none 0 0] 25 (0, 0)) (zB BK285.out) hb); have n2_ := Aside0.mk (below_step (zX HB.out GE285.out) hb); have n3_ := Aside0.mk (hbox); have n4_ := Aside0.mk ((by rw [hg]; exact (below_size (zX HB.out GE285.out)) : w.heap.size ≤ gb306)); have n5_ := Aside0.mk ((by rw [hg]; exact (below_size (zX HB.out GE285.out)) : w.heap.size ≤ gb306)); have n6_ := Aside0.mk ((by rw [hg]; exact Nat.ne_of_lt (blk_lt (g := gb285) (o := .cells #[.int .i64 0, .int .i64 0, .int .i64 0, .int .i64 0, .slice none 0 0] 25 (0, 0)) (zB BK285.out)) : gb285 ≠ gb306)); have n7_ := Aside0.mk ((by rw [hg]; exact Nat.ne_of_gt (blk_lt (g := gb285) (o := .cells #[.int .i64 0, .int .i64 0, .int .i64 0, .int .i64 0, .slice none 0 0] 25 (0, 0)) (zB BK285.out)) : gb306 ≠ gb285)); clear HO304; clear BK285; clear HB; have HO304 := n0_; have BK285 := n1_; have HB := n2_; have BK306 := n3_; have GW306 := n4_; have GE306 := n5_; have NB285_306 := n6_; have NB306_285 := n7_; clear n0_ n1_ n2_ n3_ n4_ n5_ n6_ n7_; clear hb hbox hg; have hnb40 := NB306_285.out; have hnc40 := NB285_306.out; have hcz41_0 : w39.cell? ⟨gb306, 0, none⟩ = some (.int .i64 0) := (blk_cell BK306.out 0).trans rfl; have hcz41_1 : w39.cell? ⟨gb306, 1, none⟩ = some (.int .i64 0) := (blk_cell BK306.out 1).trans rfl; have hcz41_2 : w39.cell? ⟨gb306, 2, none⟩ = some (.int .i64 0) := (blk_cell BK306.out 2).trans rfl; have hcz41_3 : w39.cell? ⟨gb306, 3, none⟩ = some (.int .i64 0) := (blk_cell BK306.out 3).trans rfl; have hcz41_4 : w39.cell? ⟨gb306, 4, none⟩ = some (.slice none 0 0) := (blk_cell BK306.out 4).trans rfl; have hfz41_0 := blk_frozen BK306.out 0; have hfz41_1 := blk_frozen BK306.out 1; have hfz41_2 := blk_frozen BK306.out 2; have hfz41_3 := blk_frozen BK306.out 3; have hfz41_4 := blk_frozen BK306.out 4; obtain ⟨Ao42, co42, eo42⟩ := Kd.R_slice HO304.out; subst eo42; have p307 : 0 ≤ (x7_2 : Int) := of_decide_eq_true zA; have q307 : x7_2 < (l0.length : Int) := of_decide_eq_true zA; obtain ⟨ad307, A307_1, c307_1, e307, hx307_0, hx307_1, hl307_1, hi307_1⟩ := at_T34 HR0.out x7_2 p307 q307; obtain rfl : ad297 = ad307 := (by injection e307); have hn307_0 : ad297.block ≠ gb306 := Nat.ne_of_lt (Nat.lt_of_lt_of_le (by have := World.block_lt_of_cell? _ _ hx307_0; first | rwa [add_block] at this | exact this) GW306.out); have hn307_1 : ad297.block ≠ gb306 := Nat.ne_of_lt (Nat.lt_of_lt_of_le (by have := World.block_lt_of_cell? _ _ hx307_0; first | rwa [add_block] at this | exact this) GW306.out); have hn307_2 : ad297.block ≠ gb306 := Nat.ne_of_lt (Nat.lt_of_lt_of_le (by have := World.block_lt_of_cell? _ _ hx307_0; first | rwa [add_block] at this | exact this) GW306.out); have hn307_3 : ad297.block ≠ gb306 := Nat.ne_of_lt (Nat.lt_of_lt_of_le (by have := World.block_lt_of_cell? _ _ hx307_0; first | rwa [add_block] at this | exact this) GW306.out); have hn307_4 : ad297.block ≠ gb306 := Nat.ne_of_lt (Nat.lt_of_lt_of_le (by have := World.block_lt_of_cell? _ _ hx307_0; first | rwa [add_block] at this | exact this) GW306.out); replace hx307_0 := (HB.out.cell (World.block_lt_of_cell? w _ hx307_0)).trans hx307_0; replace hx307_1 := (HB.out.cell (World.block_lt_of_cell? w _ hx307_1)).trans hx307_1; have HR307_1 := Aside0.mk hi307_1; have HC307_1 := Aside0.mk hl307_1; clear hi307_1 hl307_1; replace hx307_0 := (cell_far (p := ⟨gb306, 0, none⟩) (by first | (rw [add_block]; exact hn307_0) | (show (Addr.add _ _).block ≠ _; rw [add_block]; exact hn307_0) | exact hn307_0) (.int .i64 t298)).trans hx307_0; replace hx307_1 := (cell_far (p := ⟨gb306, 0, none⟩) (by first | (rw [add_block]; exact hn307_0) | (show (Addr.add _ _).block ≠ _; rw [add_block]; exact hn307_0) | exact hn307_0) (.int .i64 t298)).trans hx307_1; replace hx307_0 := (cell_far (p := ⟨gb306, 1, none⟩) (by first | (rw [add_block]; exact hn307_1) | (show (Addr.add _ _).block ≠ _; rw [add_block]; exact hn307_1) | exact hn307_1) (.int .i64 t299)).trans hx307_0; replace hx307_1 := (cell_far (p := ⟨gb306, 1, none⟩) (by first | (rw [add_block]; exact hn307_1) | (show (Addr.add _ _).block ≠ _; rw [add_block]; exact hn307_1) | exact hn307_1) (.int .i64 t299)).trans hx307_1; replace hx307_0 := (cell_far (p := ⟨gb306, 2, none⟩) (by first | (rw [add_block]; exact hn307_2) | (show (Addr.add _ _).block ≠ _; rw [add_block]; exact hn307_2) | exact hn307_2) (.int .i64 t300)).trans hx307_0; replace hx307_1 := (cell_far (p := ⟨gb306, 2, none⟩) (by first | (rw [add_block]; exact hn307_2) | (show (Addr.add _ _).block ≠ _; rw [add_block]; exact hn307_2) | exact hn307_2) (.int .i64 t300)).trans hx307_1; replace hx307_0 := (cell_far (p := ⟨gb306, 3, none⟩) (by first | (rw [add_block]; exact hn307_3) | (show (Addr.add _ _).block ≠ _; rw [add_block]; exact hn307_3) | exact hn307_3) (.int .i64 t301)).trans hx307_0; replace hx307_1 := (cell_far (p := ⟨gb306, 3, none⟩) (by first | (rw [add_block]; exact hn307_3) | (show (Addr.add _ _).block ≠ _; rw [add_block]; exact hn307_3) | exact hn307_3) (.int .i64 t301)).trans hx307_1; replace hx307_0 := (cell_far (p := ⟨gb306, 4, none⟩) (by first | (rw [add_block]; exact hn307_4) | (show (Addr.add _ _).block ≠ _; rw [add_block]; exact hn307_4) | exact hn307_4) (.slice Ao42 t302.length co42)).trans hx307_0; replace hx307_1 := (cell_far (p := ⟨gb306, 4, none⟩) (by first | (rw [add_block]; exact hn307_4) | (show (Addr.add _ _).block ≠ _; rw [add_block]; exact hn307_4) | exact hn307_4) (.slice Ao42 t302.length co42)).trans hx307_1; clear hn307_0; clear hn307_1; clear hn307_2; clear hn307_3; clear hn307_4; replace p307 := eq_true p307; replace q307 := eq_true q307; have hcz43_0 : w39.cell? ⟨gb285, 0, none⟩ = some (.int .i64 0) := (blk_cell BK285.out 0).trans rfl; have hcz43_1 : w39.cell? ⟨gb285, 1, none⟩ = some (.int .i64 0) := (blk_cell BK285.out 1).trans rfl; have hcz43_2 : w39.cell? ⟨gb285, 2, none⟩ = some (.int .i64 0) := (blk_cell BK285.out 2).trans rfl; have hcz43_3 : w39.cell? ⟨gb285, 3, none⟩ = some (.int .i64 0) := (blk_cell BK285.out 3).trans rfl; have hcz43_4 : w39.cell? ⟨gb285, 4, none⟩ = some (.slice none 0 0) := (blk_cell BK285.out 4).trans rfl; have hfz43_0 := blk_frozen BK285.out 0; have hfz43_1 := blk_frozen BK285.out 1; have hfz43_2 := blk_frozen BK285.out 2; have hfz43_3 := blk_frozen BK285.out 3; have hfz43_4 := blk_frozen BK285.out 4))
            refine bodyPost_ret (results_ctt rfl _ _ gb285 25 #[.int .i64 ((rd_T34 l0 x7_2).f0), .int .i64 t299, .int .i64 t300, .int .i64 t301, .slice Ao42 t302.length co42] (0, 0) _ rfl (by (with_reducible repeat (first | refine blk_drewN ?_ _ | refine blk_drew ?_ | refine blk_alloc ?_ _)); refine blk_put (cs := #[.int .i64 ((rd_T34 l0 x7_2).f0), .int .i64 t299, .int .i64 t300, .int .i64 t301, .slice none 0 0]) ?_ 4 _ rfl; (with_reducible repeat (first | refine blk_drewN ?_ _ | refine blk_drew ?_ | refine blk_alloc ?_ _)); refine blk_put (cs := #[.int .i64 ((rd_T34 l0 x7_2).f0), .int .i64 t299, .int .i64 t300, .int .i64 0, .slice none 0 0]) ?_ 3 _ rfl; (with_reducible repeat (first | refine blk_drewN ?_ _ | refine blk_drew ?_ | refine blk_alloc ?_ _)); refine blk_put (cs := #[.int .i64 ((rd_T34 l0 x7_2).f0), .int .i64 t299, .int .i64 0, .int .i64 0, .slice none 0 0]) ?_ 2 _ rfl; (with_reducible repeat (first | refine blk_drewN ?_ _ | refine blk_drew ?_ | refine blk_alloc ?_ _)); refine blk_put (cs := #[.int .i64 ((rd_T34 l0 x7_2).f0), .int .i64 0, .int .i64 0, .int .i64 0, .slice none 0 0]) ?_ 1 _ rfl; (with_reducible repeat (first | refine blk_drewN ?_ _ | refine blk_drew ?_ | refine blk_alloc ?_ _)); refine blk_put (cs := #[.int .i64 0, .int .i64 0, .int .i64 0, .int .i64 0, .slice none 0 0]) ?_ 0 _ rfl; (with_reducible repeat (first | refine blk_drewN ?_ _ | refine blk_drew ?_ | refine blk_alloc ?_ _)); refine blk_far ?_ NB285_306.out _; (with_reducible repeat (first | refine blk_drewN ?_ _ | refine blk_drew ?_ | refine blk_alloc ?_ _)); refine blk_far ?_ NB285_306.out _; (with_reducible repeat (first | refine blk_drewN ?_ _ | refine blk_drew ?_ | refine blk_alloc ?_ _)); refine blk_far ?_ NB285_306.out _; (with_reducible repeat (first | refine blk_drewN ?_ _ | refine blk_drew ?_ | refine blk_alloc ?_ _)); refine blk_far ?_ NB285_306.out _; (with_reducible repeat (first | refine blk_drewN ?_ _ | refine blk_drew ?_ | refine blk_alloc ?_ _)); refine blk_far ?_ NB285_306.out _; (with_reducible repeat (first | refine blk_drewN ?_ _ | refine blk_drew ?_ | refine blk_alloc ?_ _)); refine blk_far ?_ NB285_306.out _; (with_reducible repeat (first | refine blk_drewN ?_ _ | refine blk_drew ?_ | refine blk_alloc ?_ _)); exact BK285.out) Try.underlying25 rfl (by kernel_rfl)) rfl ?_
            exact ⟨_, by first | rfl | (simp [errW_none, errW_some] <;> rfl) | (simp [*, errW_none, errW_some] <;> rfl), by (with_reducible repeat (first | apply Kd.R_alloc | apply Kd.R_drewN | apply Kd.R_drew)); exact Kd.R_mono (Kd.R_far (p := ⟨gb285, 4, none⟩) (Kd.R_far (p := ⟨gb285, 3, none⟩) (Kd.R_far (p := ⟨gb285, 2, none⟩) (Kd.R_far (p := ⟨gb285, 1, none⟩) (Kd.R_far (p := ⟨gb285, 0, none⟩) (Kd.R_far (p := ⟨gb306, 0, none⟩) (Kd.R_far (p := ⟨gb306, 4, none⟩) (Kd.R_far (p := ⟨gb306, 3, none⟩) (Kd.R_far (p := ⟨gb306, 2, none⟩) (Kd.R_far (p := ⟨gb306, 1, none⟩) (Kd.R_far (p := ⟨gb306, 0, none⟩) (Kd.R_types (Kd.R_types HO304.out BK306.out (by decide)) BK285.out (by decide)) (fun _ hk => hk.1.2) (.int .i64 t298)) (fun _ hk => hk.1.2) (.int .i64 t299)) (fun _ hk => hk.1.2) (.int .i64 t300)) (fun _ hk => hk.1.2) (.int .i64 t301)) (fun _ hk => hk.1.2) (.slice Ao42 t302.length co42)) (fun _ hk => hk.1.2) (.int .i64 ((rd_T34 l0 x7_2).f0))) (fun _ hk => hk.2) (.int .i64 ((rd_T34 l0 x7_2).f0))) (fun _ hk => hk.2) (.int .i64 t299)) (fun _ hk => hk.2) (.int .i64 t300)) (fun _ hk => hk.2) (.int .i64 t301)) (fun _ hk => hk.2) (.slice Ao42 t302.length co42)) (fun _ hk => trivial), by repeat (first | (with_reducible first | exact HB.out | apply below_alloc | apply pw_below_drewN | apply below_drew1 | refine below_set ?_ GE285.out | refine below_set ?_ GE306.out) | exact HB.out)⟩
           ·rw [if_neg c36] at H
            exact absurd H (by simp)
          ·rw [if_neg c35] at H
           exact absurd H (by simp)

end Go.Proofs.Ytgaepndbfpfniaa.PFR
