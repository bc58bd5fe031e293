-- PRINTED by print.py (a twelfth state) out of the translation. Not trusted: Lean checks it.
import Derived.Test.YtgaepndbfpfniaaPFRx0
import Derived.Test.YtgaepndbfpfniaaPFRx24
namespace Go.Proofs.Ytgaepndbfpfniaa.PFR
open Go.RowKit Go.Proofs.YtgaepndbfpfniaaW.PrintWords Go.Proofs.YtgaepndbfpfniaaW.PrintLast Go.Proofs.YtgaepndbfpfniaaW.PrintMore
attribute [local go_sem] max2_int min2_int max_two min_two max_three min_three max_four min_four   -- for this text's walks alone
set_option linter.unusedVariables false
set_option linter.unusedSimpArgs false

/-! ### aircheckref36_ops: function 49 -/
mutual
def aircheckref36_ops.l0 : Nat → List Int → List Int → List (List Int) → List Int → Int → Int → Option (List Int)
 | 0, _, _, _, _, _, _ => none
 | k + 1, x0, x1, x5, x6, x7, x8 => if x7 < (x0.length : Int) then (aircheckref36_ops.j1 k x0 x1 x5 x6 x7 x8 true) else (aircheckref36_ops.j1 k x0 x1 x5 x6 x7 x8 (decide (x8 < (x1.length : Int))))
def aircheckref36_ops.j1 : Nat → List Int → List Int → List (List Int) → List Int → Int → Int → Bool → Option (List Int)
 | 0, _, _, _, _, _, _, _ => none
 | k + 1, x0, x1, x5, x6, x7, x8, x22 => if x22 = true then (if x7 < (x0.length : Int) then (aircheckref36_ops.j2 k x0 x1 x5 x6 x7 x8 (decide (x8 < (x1.length : Int)))) else (aircheckref36_ops.j2 k x0 x1 x5 x6 x7 x8 false)) else (some x6)
def aircheckref36_ops.j2 : Nat → List Int → List Int → List (List Int) → List Int → Int → Int → Bool → Option (List Int)
 | 0, _, _, _, _, _, _, _ => none
 | k + 1, x0, x1, x5, x6, x7, x8, x9 => if x9 = true then (if 0 ≤ x7 then (if x7 < (x0.length : Int) then (if 0 ≤ x8 then (if x8 < (x1.length : Int) then (if (rd x0 x7) = (rd x1 x8) then (if x7 < (x5.length : Int) then (if x8 < ((rd_L1 x5 x7).length : Int) then (if 0 ≤ (wrap64 (x7 + 1)) then (if (wrap64 (x7 + 1)) < (x5.length : Int) then (if 0 ≤ (wrap64 (x8 + 1)) then (if (wrap64 (x8 + 1)) < ((rd_L1 x5 (wrap64 (x7 + 1))).length : Int) then (aircheckref36_ops.j3 k x0 x1 x5 x6 x7 x8 x9 ((rd (rd_L1 x5 x7) x8) == (rd (rd_L1 x5 (wrap64 (x7 + 1))) (wrap64 (x8 + 1))))) else (none)) else (none)) else (none)) else (none)) else (none)) else (none)) else (aircheckref36_ops.j3 k x0 x1 x5 x6 x7 x8 x9 false)) else (none)) else (none)) else (none)) else (none)) else (aircheckref36_ops.j3 k x0 x1 x5 x6 x7 x8 x9 false)
def aircheckref36_ops.j3 : Nat → List Int → List Int → List (List Int) → List Int → Int → Int → Bool → Bool → Option (List Int)
 | 0, _, _, _, _, _, _, _, _ => none
 | k + 1, x0, x1, x5, x6, x7, x8, x9, x38 => if x38 = true then (if x6.length < 17592186044416 then (aircheckref36_ops.l0 k x0 x1 x5 (x6 ++ [1]) (wrap64 (x7 + 1)) (wrap64 (x8 + 1))) else (none)) else (if x9 = true then (if 0 ≤ x7 then (if x7 < (x0.length : Int) then (if 0 ≤ x8 then (if x8 < (x1.length : Int) then (if (rd x0 x7) = (rd x1 x8) then (aircheckref36_ops.j4 k x0 x1 x5 x6 x7 x8 false) else (if x7 < (x5.length : Int) then (if x8 < ((rd_L1 x5 x7).length : Int) then (if 0 ≤ (wrap64 (x7 + 1)) then (if (wrap64 (x7 + 1)) < (x5.length : Int) then (if 0 ≤ (wrap64 (x8 + 1)) then (if (wrap64 (x8 + 1)) < ((rd_L1 x5 (wrap64 (x7 + 1))).length : Int) then (aircheckref36_ops.j4 k x0 x1 x5 x6 x7 x8 ((rd (rd_L1 x5 x7) x8) == (wrap64 ((rd (rd_L1 x5 (wrap64 (x7 + 1))) (wrap64 (x8 + 1))) + 1)))) else (none)) else (none)) else (none)) else (none)) else (none)) else (none))) else (none)) else (none)) else (none)) else (none)) else (aircheckref36_ops.j4 k x0 x1 x5 x6 x7 x8 false))
def aircheckref36_ops.j4 : Nat → List Int → List Int → List (List Int) → List Int → Int → Int → Bool → Option (List Int)
 | 0, _, _, _, _, _, _, _ => none
 | k + 1, x0, x1, x5, x6, x7, x8, x77 => if x77 = true then (if x6.length < 17592186044416 then (aircheckref36_ops.l0 k x0 x1 x5 (x6 ++ [2]) (wrap64 (x7 + 1)) (wrap64 (x8 + 1))) else (none)) else (if x7 < (x0.length : Int) then (if 0 ≤ x7 then (if x7 < (x5.length : Int) then (if 0 ≤ x8 then (if x8 < ((rd_L1 x5 x7).length : Int) then (if 0 ≤ (wrap64 (x7 + 1)) then (if (wrap64 (x7 + 1)) < (x5.length : Int) then (if x8 < ((rd_L1 x5 (wrap64 (x7 + 1))).length : Int) then (if (rd (rd_L1 x5 x7) x8) = (wrap64 ((rd (rd_L1 x5 (wrap64 (x7 + 1))) x8) + 1)) then (if x6.length < 17592186044416 then (aircheckref36_ops.l0 k x0 x1 x5 (x6 ++ [3]) (wrap64 (x7 + 1)) x8) else (none)) else (if x6.length < 17592186044416 then (aircheckref36_ops.l0 k x0 x1 x5 (x6 ++ [4]) x7 (wrap64 (x8 + 1))) else (none))) else (none)) else (none)) else (none)) else (none)) else (none)) else (none)) else (none)) else (if x6.length < 17592186044416 then (aircheckref36_ops.l0 k x0 x1 x5 (x6 ++ [4]) x7 (wrap64 (x8 + 1))) else (none)))
end
def aircheckref36_ops.f (k : Nat) (l0 : List Int) (l1 : List Int) : Option (List Int) := (aircheckref36_rest.f k l0 l1).bind fun t235 => (aircheckref36_ops.l0 k l0 l1 t235 ([] : List Int) 0 0)
set_option maxHeartbeats 8000000 in
set_option maxRecDepth 100000 in
theorem aircheckref36_ops.calls (k : Nat) (A0 : Option Addr) (c0 : Nat) (l0 : List Int) (A1 : Option Addr) (c1 : Nat) (l1 : List Int) (r : List Int) (w : World) (hr0 : Kd.C (Kd.int .i64) w A0 l0.length l0) (hc0 : l0.length ≤ c0) (hr1 : Kd.C (Kd.int .i64) w A1 l1.length l1) (hc1 : l1.length ≤ c1) (h : aircheckref36_ops.f k l0 l1 = some r) :
  Calls Try.prog 49 #[.slice A0 l0.length c0, .slice A1 l1.length c1] w fun e w' => ∃ v0_ : Value, e = .returned (v0_) ∧ Kd.R (Kd.int .i64) 3 w' w.heap.size (fun _ => True) v0_ r ∧ Below w.heap.size w w' := by
 have HR0 := Aside0.mk hr0
 have HC0 := Aside0.mk hc0
 clear hr0 hc0
 have HR1 := Aside0.mk hr1
 have HC1 := Aside0.mk hc1
 clear hr1 hc1
 have HB := Aside0.mk (Below.refl w.heap.size w)
 have H : ((aircheckref36_rest.f k l0 l1).bind fun t235 => (aircheckref36_ops.l0 k l0 l1 t235 ([] : List Int) 0 0)) = some r := h
 clear h
 replace H := Option.bind_eq_some_iff.mp H
 obtain ⟨t235, A30, H⟩ := H
 have A3 := Aside0.mk A30
 clear A30
 have H' := Aside0.mk H
 clear H
 go_enter Try.func49, Try.ntmps49
 go_wp2_with (first | (go_at_call 44; (with_reducible refine (aircheckref36_rest.calls k _ _ l0 _ _ l1 t235 _ ?side1 ?side2 ?side3 ?side4 A3.out).mono ?_); (case side1 => exact zC HR0.out); (case side2 => exact HC0.out); (case side3 => exact zC HR1.out); (case side4 => exact HC1.out); rintro e w4 ⟨v236, rfl, ho0, hb⟩; have n0_ := Aside0.mk (Kd.S_lower ho0 (below_size (zW HB.out))); have n1_ := Aside0.mk (below_step (zW HB.out) hb); clear HB; have HO237 := n0_; have HB := n1_; clear n0_ n1_; (try clear hb); (try clear hb2); (try clear hk); (try clear hi); (try clear ho0)))
 repeat (go_quiet (first | (go_at_call 44; (with_reducible refine (aircheckref36_rest.calls k _ _ l0 _ _ l1 t235 _ ?side1 ?side2 ?side3 ?side4 A3.out).mono ?_); (case side1 => exact zC HR0.out); (case side2 => exact HC0.out); (case side3 => exact zC HR1.out); (case side4 => exact HC1.out); rintro e w4 ⟨v236, rfl, ho0, hb⟩; have n0_ := Aside0.mk (Kd.S_lower ho0 (below_size (zW HB.out))); have n1_ := Aside0.mk (below_step (zW HB.out) hb); clear HB; have HO237 := n0_; have HB := n1_; clear n0_ n1_; (try clear hb); (try clear hb2); (try clear hk); (try clear hi); (try clear ho0))); try go_wp2_with (first | (go_at_call 44; (with_reducible refine (aircheckref36_rest.calls k _ _ l0 _ _ l1 t235 _ ?side1 ?side2 ?side3 ?side4 A3.out).mono ?_); (case side1 => exact zC HR0.out); (case side2 => exact HC0.out); (case side3 => exact zC HR1.out); (case side4 => exact HC1.out); rintro e w4 ⟨v236, rfl, ho0, hb⟩; have n0_ := Aside0.mk (Kd.S_lower ho0 (below_size (zW HB.out))); have n1_ := Aside0.mk (below_step (zW HB.out) hb); clear HB; have HO237 := n0_; have HB := n1_; clear n0_ n1_; (try clear hb); (try clear hb2); (try clear hk); (try clear hi); (try clear ho0))))
 go_loopg [6, 7, 8] k (fun kq v6 v7 v8 w' => ∃ (x6_1 : List Int) (x7_1 : Int) (x8_1 : Int), v7 = .int .i64 x7_1 ∧ v8 = .int .i64 x8_1 ∧ Aside0 (aircheckref36_ops.l0 kq l0 l1 t235 x6_1 x7_1 x8_1 = some r) ∧ Aside0 (kq ≤ k) ∧ Aside0 (Kd.S (Kd.slice 3 (Kd.int .i64)) 22 w' w.heap.size (fun k_ => some k_ ≠ (v6 : Value).ownBlock) v236 t235) ∧ Aside0 (Kd.R (Kd.int .i64) 3 w' w.heap.size (fun _ => True) v6 x6_1) ∧ Aside0 (Below w.heap.size w w'))
 case atStart => exact ⟨(([] : List Int)), (0), (0), zE, zE, H', ⟨Nat.le_refl _⟩, ⟨by (with_reducible repeat (first | apply Kd.S_alloc | apply Kd.S_drewN | apply Kd.S_drew)); exact Kd.S_mono HO237.out (fun _ hk => (by simp [Value.ownBlock]))⟩, ⟨by first | exact Kd.R_nil _ _ _ _ _ | exact Kd.N_nil _ _ _ _ _ | exact Kd.V_nil _ _ _ _ _ | exact Kd.Q_nil _ _ _ _ _ | exact Kd.S_nil _ _ _ _ _⟩, ⟨zW HB.out⟩⟩
 case round =>
  clear H'
  (try clear c1); (try clear p2); (try clear c4)
  obtain ⟨x6_1, x7_1, x8_1, rfl, rfl, HA, HK1, HO_5, HO_6, HB⟩ := hrel
  cases gk with
  | zero => exact absurd HA.out (by simp [aircheckref36_ops.l0])
  | succ k1 =>
   have H := HA.out
   clear HA
   simp only [aircheckref36_ops.l0] at H
   have HC5 := Aside0.mk H
   clear H
   go_upto_region 5 with (fail)
   repeat (go_quiet (fail); go_upto_region 5 with (fail))
   go_cut [22] (fun v22 wc => ∃ (kq : Nat) (x22_4 : Bool), v22 = .bool x22_4 ∧ Aside0 (aircheckref36_ops.j1 kq l0 l1 t235 x6_1 x7_1 x8_1 x22_4 = some r) ∧ Aside0 (kq ≤ k1) ∧ Aside0 (Kd.S (Kd.slice 3 (Kd.int .i64)) 22 wc w.heap.size (fun k_ => some k_ ≠ (u6 : Value).ownBlock) v236 t235) ∧ Aside0 (Kd.R (Kd.int .i64) 3 wc w.heap.size (fun _ => True) u6 x6_1) ∧ Aside0 (Below w.heap.size w wc))
   case first =>
    have H := HC5.out
    clear HC5
    by_cases c6 : x7_1 < (l0.length : Int)
    ·rw [if_pos c6] at H
     have c6b0 : decide (x7_1 < (l0.length : Int)) = true := decide_eq_true c6
     clear c6
     (first | rw [c6b0] | (simp only [i64_w, i32_w]; rw [c6b0]) | skip)
     have H' := Aside0.mk H
     clear H
     go_wp2
     repeat (go_quiet (fail); try go_wp2)
     go_meet
     case rel => exact ⟨_, (true), zE, H', ⟨by have := HK1.out; first | omega | exact Nat.le_refl _⟩, ⟨zS HO_5.out⟩, ⟨zR HO_6.out⟩, ⟨zW HB.out⟩⟩
    ·rw [if_neg c6] at H
     have c6b0 : decide (x7_1 < (l0.length : Int)) = false := decide_eq_false c6
     clear c6
     (first | rw [c6b0] | (simp only [i64_w, i32_w]; rw [c6b0]) | skip)
     have H' := Aside0.mk H
     clear H
     go_wp2
     repeat (go_quiet (fail); try go_wp2)
     go_meet
     case rel => exact ⟨_, (decide (x8_1 < (l1.length : Int))), zE, H', ⟨by have := HK1.out; first | omega | exact Nat.le_refl _⟩, ⟨zS HO_5.out⟩, ⟨zR HO_6.out⟩, ⟨zW HB.out⟩⟩
   case rest =>
    clear HC5
    (try clear c1); (try clear p2); (try clear c4); (try clear c6); (try clear c6b0)
    obtain ⟨kq, x22_4, rfl, HA, HJ4, HO_5, HO_6, HB⟩ := hcut
    cases kq with
    | zero => exact absurd HA.out (by simp [aircheckref36_ops.j1])
    | succ kj4 =>
     have H := HA.out
     clear HA
     simp only [aircheckref36_ops.j1] at H
     by_cases c7 : x22_4 = true
     ·subst c7
      rw [if_pos rfl] at H
      have HC8 := Aside0.mk H
      clear H
      go_upto_region 6 with (fail)
      repeat (go_quiet (fail); go_upto_region 6 with (fail))
      go_cut [9] (fun v9 wc => ∃ (kq : Nat) (x9_7 : Bool), v9 = .bool x9_7 ∧ Aside0 (aircheckref36_ops.j2 kq l0 l1 t235 x6_1 x7_1 x8_1 x9_7 = some r) ∧ Aside0 (kq ≤ kj4) ∧ Aside0 (Kd.S (Kd.slice 3 (Kd.int .i64)) 22 wc w.heap.size (fun k_ => some k_ ≠ (u6 : Value).ownBlock) v236 t235) ∧ Aside0 (Kd.R (Kd.int .i64) 3 wc w.heap.size (fun _ => True) u6 x6_1) ∧ Aside0 (Below w.heap.size w wc))
      case first =>
       have H := HC8.out
       clear HC8
       by_cases c9 : x7_1 < (l0.length : Int)
       ·rw [if_pos c9] at H
        have c9b0 : decide (x7_1 < (l0.length : Int)) = true := decide_eq_true c9
        clear c9
        (first | rw [c9b0] | (simp only [i64_w, i32_w]; rw [c9b0]) | skip)
        have H' := Aside0.mk H
        clear H
        go_wp2
        repeat (go_quiet (fail); try go_wp2)
        go_meet
        case rel => exact ⟨_, (decide (x8_1 < (l1.length : Int))), zE, H', ⟨by have := HK1.out; have := HJ4.out; first | omega | exact Nat.le_refl _⟩, ⟨zS HO_5.out⟩, ⟨zR HO_6.out⟩, ⟨zW HB.out⟩⟩
       ·rw [if_neg c9] at H
        have c9b0 : decide (x7_1 < (l0.length : Int)) = false := decide_eq_false c9
        clear c9
        (first | rw [c9b0] | (simp only [i64_w, i32_w]; rw [c9b0]) | skip)
        have H' := Aside0.mk H
        clear H
        go_wp2
        repeat (go_quiet (fail); try go_wp2)
        go_meet
        case rel => exact ⟨_, (false), zE, H', ⟨by have := HK1.out; have := HJ4.out; first | omega | exact Nat.le_refl _⟩, ⟨zS HO_5.out⟩, ⟨zR HO_6.out⟩, ⟨zW HB.out⟩⟩
      case rest =>
       clear HC8
       (try clear c1); (try clear p2); (try clear c4); (try clear c6); (try clear c6b0); (try clear c7); (try clear c9); (try clear c9b0)
       obtain ⟨kq, x9_7, rfl, HA, HJ7, HO_5, HO_6, HB⟩ := hcut
       cases kq with
       | zero => exact absurd HA.out (by simp [aircheckref36_ops.j2])
       | succ kj7 =>
        have H := HA.out
        clear HA
        simp only [aircheckref36_ops.j2] at H
        have HC10 := Aside0.mk H
        clear H
        go_upto_region 9 with (fail)
        repeat (go_quiet (fail); go_upto_region 9 with (fail))
        go_cut [38] (fun v38 wc => ∃ (kq : Nat) (x38_9 : Bool), v38 = .bool x38_9 ∧ Aside0 (aircheckref36_ops.j3 kq l0 l1 t235 x6_1 x7_1 x8_1 x9_7 x38_9 = some r) ∧ Aside0 (kq ≤ kj7) ∧ Aside0 (Kd.S (Kd.slice 3 (Kd.int .i64)) 22 wc w.heap.size (fun k_ => some k_ ≠ (u6 : Value).ownBlock) v236 t235) ∧ Aside0 (Kd.R (Kd.int .i64) 3 wc w.heap.size (fun _ => True) u6 x6_1) ∧ Aside0 (Below w.heap.size w wc))
        case first =>
         have H := HC10.out
         clear HC10
         by_cases c11 : x9_7 = true
         ·subst c11
          rw [if_pos rfl] at H
          by_cases c12 : 0 ≤ x7_1
          ·rw [if_pos c12] at H
           have c12b0 : decide (0 ≤ x7_1) = true := decide_eq_true c12
           clear c12
           (first | rw [c12b0] | (simp only [i64_w, i32_w]; rw [c12b0]) | skip)
           by_cases c13 : x7_1 < (l0.length : Int)
           ·rw [if_pos c13] at H
            have c13b0 : decide (x7_1 < (l0.length : Int)) = true := decide_eq_true c13
            clear c13
            by_cases c14 : 0 ≤ x8_1
            ·rw [if_pos c14] at H
             have c14b0 : decide (0 ≤ x8_1) = true := decide_eq_true c14
             clear c14
             by_cases c15 : x8_1 < (l1.length : Int)
             ·rw [if_pos c15] at H
              have c15b0 : decide (x8_1 < (l1.length : Int)) = true := decide_eq_true c15
              clear c15
              by_cases c16 : (rd l0 x7_1) = (rd l1 x8_1)
              ·rw [if_pos c16] at H
               have c16b0 : ((rd l0 x7_1) == (rd l1 x8_1)) = true := beq_iff_eq.mpr c16
               have c16b1 : ((rd l0 x7_1) != (rd l1 x8_1)) = false := bne_eq_false_iff_eq.mpr c16
               clear c16
               by_cases c17 : x7_1 < (t235.length : Int)
               ·rw [if_pos c17] at H
                have c17b0 : decide (x7_1 < (t235.length : Int)) = true := decide_eq_true c17
                clear c17
                by_cases c18 : x8_1 < ((rd_L1 t235 x7_1).length : Int)
                ·rw [if_pos c18] at H
                 have c18b0 : decide (x8_1 < ((rd_L1 t235 x7_1).length : Int)) = true := decide_eq_true c18
                 clear c18
                 obtain ⟨ji19, hji19⟩ : ∃ j_ : Int, (wrap64 (x7_1 + 1)) = j_ := ⟨_, rfl⟩
                 replace H : (if 0 ≤ (ji19) then (if (ji19) < (t235.length : Int) then (if 0 ≤ (wrap64 (x8_1 + 1)) then (if (wrap64 (x8_1 + 1)) < ((rd_L1 t235 (ji19)).length : Int) then (aircheckref36_ops.j3 kj7 l0 l1 t235 x6_1 x7_1 x8_1 true ((rd (rd_L1 t235 x7_1) x8_1) == (rd (rd_L1 t235 (ji19)) (wrap64 (x8_1 + 1))))) else (none)) else (none)) else (none)) else (none)) = some r := by first | (rw [hji19] at H; exact H) | (simp only [hji19] at H ⊢; exact H)
                 have hji19w : (IntKind.i64.wrap (x7_1 + 1)) = ji19 := (i64_w _).trans hji19
                 by_cases c20 : 0 ≤ (ji19)
                 ·rw [if_pos c20] at H
                  have c20b0 : decide (0 ≤ (ji19)) = true := decide_eq_true c20
                  clear c20
                  by_cases c21 : (ji19) < (t235.length : Int)
                  ·rw [if_pos c21] at H
                   have c21b0 : decide ((ji19) < (t235.length : Int)) = true := decide_eq_true c21
                   clear c21
                   obtain ⟨ji22, hji22⟩ : ∃ j_ : Int, (wrap64 (x8_1 + 1)) = j_ := ⟨_, rfl⟩
                   replace H : (if 0 ≤ (ji22) then (if (ji22) < ((rd_L1 t235 (ji19)).length : Int) then (aircheckref36_ops.j3 kj7 l0 l1 t235 x6_1 x7_1 x8_1 true ((rd (rd_L1 t235 x7_1) x8_1) == (rd (rd_L1 t235 (ji19)) (ji22)))) else (none)) else (none)) = some r := by first | (rw [hji22] at H; exact H) | (simp only [hji22] at H ⊢; exact H)
                   have hji22w : (IntKind.i64.wrap (x8_1 + 1)) = ji22 := (i64_w _).trans hji22
                   by_cases c23 : 0 ≤ (ji22)
                   ·rw [if_pos c23] at H
                    have c23b0 : decide (0 ≤ (ji22)) = true := decide_eq_true c23
                    clear c23
                    by_cases c24 : (ji22) < ((rd_L1 t235 (ji19)).length : Int)
                    ·rw [if_pos c24] at H
                     have c24b0 : decide ((ji22) < ((rd_L1 t235 (ji19)).length : Int)) = true := decide_eq_true c24
                     clear c24
                     have H' := Aside0.mk H
                     clear H
                     have p238 : 0 ≤ (x7_1 : Int) := of_decide_eq_true zA
                     have q238 : x7_1 < (l0.length : Int) := of_decide_eq_true zA
                     obtain ⟨ad238, e238, hx238_0⟩ := Kd.at_int HR0.out x7_1 p238 q238
                     cases e238
                     replace hx238_0 := (HB.out.cell (World.block_lt_of_cell? w _ hx238_0)).trans hx238_0
                     replace p238 := eq_true p238
                     replace q238 := eq_true q238
                     have p239 : 0 ≤ (x8_1 : Int) := of_decide_eq_true zA
                     have q239 : x8_1 < (l1.length : Int) := of_decide_eq_true zA
                     obtain ⟨ad239, e239, hx239_0⟩ := Kd.at_int HR1.out x8_1 p239 q239
                     cases e239
                     replace hx239_0 := (HB.out.cell (World.block_lt_of_cell? w _ hx239_0)).trans hx239_0
                     replace p239 := eq_true p239
                     replace q239 := eq_true q239
                     obtain ⟨Ao25, co25, eo25⟩ := Kd.S_slice HO_5.out
                     subst eo25
                     have p240 : 0 ≤ (x7_1 : Int) := of_decide_eq_true zA
                     have q240 : x7_1 < (t235.length : Int) := of_decide_eq_true zA
                     obtain ⟨ad240, A240_0, c240_0, e240, hx240_0, hl240_0, hi240_0⟩ := at_L1 (Kd.S_reads' HO_5.out).2.2 x7_1 p240 q240
                     cases e240
                     obtain ⟨ce240, hce240, hMe240, hcc240⟩ := Kd.S_get HO_5.out [] x7_1 p240 (by first | exact q240 | exact of_decide_eq_true zA | (have e_ := (Kd.S_reads' HO_5.out).1; omega))
                     obtain ⟨ve240_0, rfl, ge240_0⟩ := hMe240
                     have hv240_0 := hcc240 0 _ rfl
                     rw [Nat.add_zero, show ((Kd.slice 3 (Kd.int .i64))).sz = 1 from rfl, Nat.mul_one] at hv240_0
                     replace hv240_0 := Option.some.inj (hv240_0.symm.trans hx240_0)
                     rw [hv240_0] at ge240_0
                     have HL240_0 := Aside0.mk (show Kd.R (Kd.int .i64) 3 _ _ _ _ (rd_L1 t235 x7_1) from ge240_0)
                     clear hv240_0 ge240_0
                     clear hcc240 hce240
                     have HR240_0 := Aside0.mk hi240_0
                     have HC240_0 := Aside0.mk hl240_0
                     clear hi240_0 hl240_0
                     replace p240 := eq_true p240
                     replace q240 := eq_true q240
                     have p241 : 0 ≤ (x8_1 : Int) := of_decide_eq_true zA
                     have q241 : x8_1 < ((rd_L1 t235 x7_1).length : Int) := of_decide_eq_true zA
                     obtain ⟨ad241, e241, hx241_0⟩ := Kd.at_int (zC HR240_0.out) x8_1 p241 q241
                     cases e241
                     replace p241 := eq_true p241
                     replace q241 := eq_true q241
                     have p242 : 0 ≤ ((ji19) : Int) := of_decide_eq_true zA
                     have q242 : (ji19) < (t235.length : Int) := of_decide_eq_true zA
                     obtain ⟨ad242, A242_0, c242_0, e242, hx242_0, hl242_0, hi242_0⟩ := at_L1 (Kd.S_reads' HO_5.out).2.2 (ji19) p242 q242
                     obtain rfl : ad240 = ad242 := (by injection e242)
                     obtain ⟨ce242, hce242, hMe242, hcc242⟩ := Kd.S_get HO_5.out [] (ji19) p242 (by first | exact q242 | exact of_decide_eq_true zA | (have e_ := (Kd.S_reads' HO_5.out).1; omega))
                     obtain ⟨ve242_0, rfl, ge242_0⟩ := hMe242
                     have hv242_0 := hcc242 0 _ rfl
                     rw [Nat.add_zero, show ((Kd.slice 3 (Kd.int .i64))).sz = 1 from rfl, Nat.mul_one] at hv242_0
                     replace hv242_0 := Option.some.inj (hv242_0.symm.trans hx242_0)
                     rw [hv242_0] at ge242_0
                     have HL242_0 := Aside0.mk (show Kd.R (Kd.int .i64) 3 _ _ _ _ (rd_L1 t235 (ji19)) from ge242_0)
                     clear hv242_0 ge242_0
                     clear hcc242 hce242
                     have HR242_0 := Aside0.mk hi242_0
                     have HC242_0 := Aside0.mk hl242_0
                     clear hi242_0 hl242_0
                     replace p242 := eq_true p242
                     replace q242 := eq_true q242
                     have p243 : 0 ≤ ((ji22) : Int) := of_decide_eq_true zA
                     have q243 : (ji22) < ((rd_L1 t235 (ji19)).length : Int) := of_decide_eq_true zA
                     obtain ⟨ad243, e243, hx243_0⟩ := Kd.at_int (zC HR242_0.out) (ji22) p243 q243
                     cases e243
                     replace p243 := eq_true p243
                     replace q243 := eq_true q243
                     go_wp2
                     repeat (go_quiet (fail); try go_wp2)
                     go_meet
                     case rel => exact ⟨_, (((rd (rd_L1 t235 x7_1) x8_1) == (rd (rd_L1 t235 (ji19)) (ji22)))), (by first | rfl | (simp; done) | (simp only [← hji19, ← hji22] <;> (first | rfl | simp)) | (simp [*]; done)), H', ⟨by have := HK1.out; have := HJ4.out; have := HJ7.out; first | omega | exact Nat.le_refl _⟩, ⟨zS HO_5.out⟩, ⟨zR HO_6.out⟩, ⟨zW HB.out⟩⟩
                    ·rw [if_neg c24] at H
                     exact absurd H (by simp)
                   ·rw [if_neg c23] at H
                    exact absurd H (by simp)
                  ·rw [if_neg c21] at H
                   exact absurd H (by simp)
                 ·rw [if_neg c20] at H
                  exact absurd H (by simp)
                ·rw [if_neg c18] at H
                 exact absurd H (by simp)
               ·rw [if_neg c17] at H
                exact absurd H (by simp)
              ·rw [if_neg c16] at H
               have c16b0 : ((rd l0 x7_1) == (rd l1 x8_1)) = false := beq_eq_false_iff_ne.mpr c16
               have c16b1 : ((rd l0 x7_1) != (rd l1 x8_1)) = true := bne_iff_ne.mpr c16
               have H' := Aside0.mk H
               clear H
               have p238 : 0 ≤ (x7_1 : Int) := of_decide_eq_true zA
               have q238 : x7_1 < (l0.length : Int) := of_decide_eq_true zA
               obtain ⟨ad238, e238, hx238_0⟩ := Kd.at_int HR0.out x7_1 p238 q238
               cases e238
               replace hx238_0 := (HB.out.cell (World.block_lt_of_cell? w _ hx238_0)).trans hx238_0
               replace p238 := eq_true p238
               replace q238 := eq_true q238
               have p239 : 0 ≤ (x8_1 : Int) := of_decide_eq_true zA
               have q239 : x8_1 < (l1.length : Int) := of_decide_eq_true zA
               obtain ⟨ad239, e239, hx239_0⟩ := Kd.at_int HR1.out x8_1 p239 q239
               cases e239
               replace hx239_0 := (HB.out.cell (World.block_lt_of_cell? w _ hx239_0)).trans hx239_0
               replace p239 := eq_true p239
               replace q239 := eq_true q239
               go_wp2
               repeat (go_quiet (fail); try go_wp2)
               go_meet
               case rel => exact ⟨_, (false), zE, H', ⟨by have := HK1.out; have := HJ4.out; have := HJ7.out; first | omega | exact Nat.le_refl _⟩, ⟨zS HO_5.out⟩, ⟨zR HO_6.out⟩, ⟨zW HB.out⟩⟩
             ·rw [if_neg c15] at H
              exact absurd H (by simp)
            ·rw [if_neg c14] at H
             exact absurd H (by simp)
           ·rw [if_neg c13] at H
            exact absurd H (by simp)
          ·rw [if_neg c12] at H
           exact absurd H (by simp)
         ·replace c11 := Bool.eq_false_iff.mpr c11
          subst c11
          rw [if_neg (show ¬ (false = true) by decide)] at H
          have H' := Aside0.mk H
          clear H
          go_wp2
          repeat (go_quiet (fail); try go_wp2)
          go_meet
          case rel => exact ⟨_, (false), zE, H', ⟨by have := HK1.out; have := HJ4.out; have := HJ7.out; first | omega | exact Nat.le_refl _⟩, ⟨zS HO_5.out⟩, ⟨zR HO_6.out⟩, ⟨zW HB.out⟩⟩
        case rest =>
         clear HC10
         (try clear c1); (try clear c2); (try clear p2); (try clear q2); (try clear hx2); (try clear c4); (try clear c6); (try clear c6b0); (try clear p6); (try clear c7); (try clear c9); (try clear c9b0); (try clear c11); (try clear c12); (try clear c12b0); (try clear c13); (try clear c13b0); (try clear c14); (try clear c14b0); (try clear c15); (try clear c15b0); (try clear c16); (try clear c16b0); (try clear c16b1); (try clear c17); (try clear c17b0); (try clear c18); (try clear c18b0); (try clear c20); (try clear c20b0); (try clear c21); (try clear c21b0); (try clear c23); (try clear c23b0); (try clear p23); (try clear q23); (try clear hx23); (try clear c24); (try clear c24b0); (try clear p24); (try clear q24); (try clear hx24); (try clear hx238_0); (try clear hx239_0); (try clear hx240_0); (try clear hx241_0); (try clear hx242_0); (try clear hx243_0); (try clear p238); (try clear p239); (try clear p240); (try clear p241); (try clear p242); (try clear p243); (try clear q238); (try clear q239); (try clear q240); (try clear q241); (try clear q242); (try clear q243)
         obtain ⟨kq, x38_9, rfl, HA, HJ9, HO_5, HO_6, HB⟩ := hcut
         cases kq with
         | zero => exact absurd HA.out (by simp [aircheckref36_ops.j3])
         | succ kj9 =>
          have H := HA.out
          clear HA
          simp only [aircheckref36_ops.j3] at H
          by_cases c26 : x38_9 = true
          ·subst c26
           rw [if_pos rfl] at H
           by_cases c27 : x6_1.length < 17592186044416
           ·rw [if_pos c27] at H
            have LMc27 := Aside0.mk c27
            clear c27
            obtain ⟨y244, hy244⟩ : ∃ y_ : List Int, y_ = (x6_1 ++ [1]) := ⟨_, rfl⟩
            replace H : (aircheckref36_ops.l0 kj9 l0 l1 t235 y244 (wrap64 (x7_1 + 1)) (wrap64 (x8_1 + 1))) = some r := by first | (rw [hy244]; with_reducible exact H) | (have H2_ := (Option.bind_some _ _).symm.trans H; rw [hy244]; with_reducible exact H2_) | (have H2_ := (Option.bind_some _ _).symm.trans H; with_reducible exact H2_) | with_reducible exact H | (rw [hy244]; exact H) | exact H
            have Ny244 := Aside0.mk hy244
            clear hy244
            have H' := Aside0.mk H
            clear H
            go_wp2_with (first | ((with_reducible refine gate_builtin (b := .append) (xs := #[.tmp 70, .tmp 71]) rfl ?_); (try (refine gate_guard (by rfl) ?_; dsimp only)); at_builtin; refine Kd.R_append (Kd.int .i64) (w0 := w) w.heap.size rfl (.tmp 70) (.tmp 71) 22 3 (.int .i64 0) 8 rfl Try.underlying22 info3 rfl (by decide) (by omega) u6 x6_1 1 [.int .i64 1] (fun _ => True) (fun _ => False) rfl rfl ?aP (fun _ hk => hk.elim) ?aF ?aO ?aB ?aS ?aL ?_; (case aP => exact rfl); (case aB => exact (zW HB.out)); (case aF => exact (fun _ _ => trivial)); (case aO => exact (zR HO_6.out)); (case aS => exact (below_size (zW HB.out))); (case aL => have := LMc27.out; omega); intro v245 w28 ho hb hg hat; rw [← Ny244.out] at ho; have n0_ := Aside0.mk (Kd.S_after (ok := (fun _ => True)) (by (with_reducible repeat (first | apply Kd.S_alloc | apply Kd.S_drewN | apply Kd.S_drew)); exact Kd.S_mono HO_5.out (fun _ hk => ⟨trivial, hk⟩)) hg hat); have n1_ := Aside0.mk (hb); have n2_ := Aside0.mk (ho); clear HO_5; clear HB; clear HO_6; have HO_5 := n0_; have HB := n1_; have HO246 := n2_; clear n0_ n1_ n2_; clear ho hb hg hat))
            repeat (go_quiet (first | ((with_reducible refine gate_builtin (b := .append) (xs := #[.tmp 70, .tmp 71]) rfl ?_); (try (refine gate_guard (by rfl) ?_; dsimp only)); at_builtin; refine Kd.R_append (Kd.int .i64) (w0 := w) w.heap.size rfl (.tmp 70) (.tmp 71) 22 3 (.int .i64 0) 8 rfl Try.underlying22 info3 rfl (by decide) (by omega) u6 x6_1 1 [.int .i64 1] (fun _ => True) (fun _ => False) rfl rfl ?aP (fun _ hk => hk.elim) ?aF ?aO ?aB ?aS ?aL ?_; (case aP => exact rfl); (case aB => exact (zW HB.out)); (case aF => exact (fun _ _ => trivial)); (case aO => exact (zR HO_6.out)); (case aS => exact (below_size (zW HB.out))); (case aL => have := LMc27.out; omega); intro v245 w28 ho hb hg hat; rw [← Ny244.out] at ho; have n0_ := Aside0.mk (Kd.S_after (ok := (fun _ => True)) (by (with_reducible repeat (first | apply Kd.S_alloc | apply Kd.S_drewN | apply Kd.S_drew)); exact Kd.S_mono HO_5.out (fun _ hk => ⟨trivial, hk⟩)) hg hat); have n1_ := Aside0.mk (hb); have n2_ := Aside0.mk (ho); clear HO_5; clear HB; clear HO_6; have HO_5 := n0_; have HB := n1_; have HO246 := n2_; clear n0_ n1_ n2_; clear ho hb hg hat)); try go_wp2_with (first | ((with_reducible refine gate_builtin (b := .append) (xs := #[.tmp 70, .tmp 71]) rfl ?_); (try (refine gate_guard (by rfl) ?_; dsimp only)); at_builtin; refine Kd.R_append (Kd.int .i64) (w0 := w) w.heap.size rfl (.tmp 70) (.tmp 71) 22 3 (.int .i64 0) 8 rfl Try.underlying22 info3 rfl (by decide) (by omega) u6 x6_1 1 [.int .i64 1] (fun _ => True) (fun _ => False) rfl rfl ?aP (fun _ hk => hk.elim) ?aF ?aO ?aB ?aS ?aL ?_; (case aP => exact rfl); (case aB => exact (zW HB.out)); (case aF => exact (fun _ _ => trivial)); (case aO => exact (zR HO_6.out)); (case aS => exact (below_size (zW HB.out))); (case aL => have := LMc27.out; omega); intro v245 w28 ho hb hg hat; rw [← Ny244.out] at ho; have n0_ := Aside0.mk (Kd.S_after (ok := (fun _ => True)) (by (with_reducible repeat (first | apply Kd.S_alloc | apply Kd.S_drewN | apply Kd.S_drew)); exact Kd.S_mono HO_5.out (fun _ hk => ⟨trivial, hk⟩)) hg hat); have n1_ := Aside0.mk (hb); have n2_ := Aside0.mk (ho); clear HO_5; clear HB; clear HO_6; have HO_5 := n0_; have HB := n1_; have HO246 := n2_; clear n0_ n1_ n2_; clear ho hb hg hat)))
            go_roundg kj9
            case measure => have := HK1.out; have := HJ4.out; have := HJ7.out; have := HJ9.out; omega
            case rel => exact ⟨(y244), (wrap64 (x7_1 + 1)), (wrap64 (x8_1 + 1)), zE, zE, H', ⟨by have := HK1.out; have := HJ4.out; have := HJ7.out; have := HJ9.out; omega⟩, ⟨by (with_reducible repeat (first | apply Kd.S_alloc | apply Kd.S_drewN | apply Kd.S_drew)); exact Kd.S_mono HO_5.out (fun _ hk => hk.2)⟩, ⟨zR HO246.out⟩, ⟨zW HB.out⟩⟩
           ·rw [if_neg c27] at H
            exact absurd H (by simp)
          ·replace c26 := Bool.eq_false_iff.mpr c26
           subst c26
           rw [if_neg (show ¬ (false = true) by decide)] at H
           have HC29 := Aside0.mk H
           clear H
           go_upto_region 13 with (fail)
           repeat (go_quiet (fail); go_upto_region 13 with (fail))
           go_cut [77] (fun v77 wc => ∃ (kq : Nat) (x77_28 : Bool), v77 = .bool x77_28 ∧ Aside0 (aircheckref36_ops.j4 kq l0 l1 t235 x6_1 x7_1 x8_1 x77_28 = some r) ∧ Aside0 (kq ≤ kj9) ∧ Aside0 (Kd.S (Kd.slice 3 (Kd.int .i64)) 22 wc w.heap.size (fun k_ => some k_ ≠ (u6 : Value).ownBlock) v236 t235) ∧ Aside0 (Kd.R (Kd.int .i64) 3 wc w.heap.size (fun _ => True) u6 x6_1) ∧ Aside0 (Below w.heap.size w wc))
           case first =>
            have H := HC29.out
            clear HC29
            by_cases c30 : x9_7 = true
            ·subst c30
             rw [if_pos rfl] at H
             by_cases c31 : 0 ≤ x7_1
             ·rw [if_pos c31] at H
              have c31b0 : decide (0 ≤ x7_1) = true := decide_eq_true c31
              clear c31
              (first | rw [c31b0] | (simp only [i64_w, i32_w]; rw [c31b0]) | skip)
              by_cases c32 : x7_1 < (l0.length : Int)
              ·rw [if_pos c32] at H
               have c32b0 : decide (x7_1 < (l0.length : Int)) = true := decide_eq_true c32
               clear c32
               by_cases c33 : 0 ≤ x8_1
               ·rw [if_pos c33] at H
                have c33b0 : decide (0 ≤ x8_1) = true := decide_eq_true c33
                clear c33
                by_cases c34 : x8_1 < (l1.length : Int)
                ·rw [if_pos c34] at H
                 have c34b0 : decide (x8_1 < (l1.length : Int)) = true := decide_eq_true c34
                 clear c34
                 by_cases c35 : (rd l0 x7_1) = (rd l1 x8_1)
                 ·rw [if_pos c35] at H
                  have c35b0 : ((rd l0 x7_1) == (rd l1 x8_1)) = true := beq_iff_eq.mpr c35
                  have c35b1 : ((rd l0 x7_1) != (rd l1 x8_1)) = false := bne_eq_false_iff_eq.mpr c35
                  clear c35
                  have H' := Aside0.mk H
                  clear H
                  have p247 : 0 ≤ (x7_1 : Int) := of_decide_eq_true zA
                  have q247 : x7_1 < (l0.length : Int) := of_decide_eq_true zA
                  obtain ⟨ad247, e247, hx247_0⟩ := Kd.at_int HR0.out x7_1 p247 q247
                  cases e247
                  replace hx247_0 := (HB.out.cell (World.block_lt_of_cell? w _ hx247_0)).trans hx247_0
                  replace p247 := eq_true p247
                  replace q247 := eq_true q247
                  have p248 : 0 ≤ (x8_1 : Int) := of_decide_eq_true zA
                  have q248 : x8_1 < (l1.length : Int) := of_decide_eq_true zA
                  obtain ⟨ad248, e248, hx248_0⟩ := Kd.at_int HR1.out x8_1 p248 q248
                  cases e248
                  replace hx248_0 := (HB.out.cell (World.block_lt_of_cell? w _ hx248_0)).trans hx248_0
                  replace p248 := eq_true p248
                  replace q248 := eq_true q248
                  go_wp2
                  repeat (go_quiet (fail); try go_wp2)
                  go_meet
                  case rel => exact ⟨_, (false), zE, H', ⟨by have := HK1.out; have := HJ4.out; have := HJ7.out; have := HJ9.out; first | omega | exact Nat.le_refl _⟩, ⟨zS HO_5.out⟩, ⟨zR HO_6.out⟩, ⟨zW HB.out⟩⟩
                 ·rw [if_neg c35] at H
                  have c35b0 : ((rd l0 x7_1) == (rd l1 x8_1)) = false := beq_eq_false_iff_ne.mpr c35
                  have c35b1 : ((rd l0 x7_1) != (rd l1 x8_1)) = true := bne_iff_ne.mpr c35
                  by_cases c36 : x7_1 < (t235.length : Int)
                  ·rw [if_pos c36] at H
                   have c36b0 : decide (x7_1 < (t235.length : Int)) = true := decide_eq_true c36
                   clear c36
                   by_cases c37 : x8_1 < ((rd_L1 t235 x7_1).length : Int)
                   ·rw [if_pos c37] at H
                    have c37b0 : decide (x8_1 < ((rd_L1 t235 x7_1).length : Int)) = true := decide_eq_true c37
                    clear c37
                    obtain ⟨ji38, hji38⟩ : ∃ j_ : Int, (wrap64 (x7_1 + 1)) = j_ := ⟨_, rfl⟩
                    replace H : (if 0 ≤ (ji38) then (if (ji38) < (t235.length : Int) then (if 0 ≤ (wrap64 (x8_1 + 1)) then (if (wrap64 (x8_1 + 1)) < ((rd_L1 t235 (ji38)).length : Int) then (aircheckref36_ops.j4 kj9 l0 l1 t235 x6_1 x7_1 x8_1 ((rd (rd_L1 t235 x7_1) x8_1) == (wrap64 ((rd (rd_L1 t235 (ji38)) (wrap64 (x8_1 + 1))) + 1)))) else (none)) else (none)) else (none)) else (none)) = some r := by first | (rw [hji38] at H; exact H) | (simp only [hji38] at H ⊢; exact H)
                    have hji38w : (IntKind.i64.wrap (x7_1 + 1)) = ji38 := (i64_w _).trans hji38
                    by_cases c39 : 0 ≤ (ji38)
                    ·rw [if_pos c39] at H
                     have c39b0 : decide (0 ≤ (ji38)) = true := decide_eq_true c39
                     clear c39
                     by_cases c40 : (ji38) < (t235.length : Int)
                     ·rw [if_pos c40] at H
                      have c40b0 : decide ((ji38) < (t235.length : Int)) = true := decide_eq_true c40
                      clear c40
                      obtain ⟨ji41, hji41⟩ : ∃ j_ : Int, (wrap64 (x8_1 + 1)) = j_ := ⟨_, rfl⟩
                      replace H : (if 0 ≤ (ji41) then (if (ji41) < ((rd_L1 t235 (ji38)).length : Int) then (aircheckref36_ops.j4 kj9 l0 l1 t235 x6_1 x7_1 x8_1 ((rd (rd_L1 t235 x7_1) x8_1) == (wrap64 ((rd (rd_L1 t235 (ji38)) (ji41)) + 1)))) else (none)) else (none)) = some r := by first | (rw [hji41] at H; exact H) | (simp only [hji41] at H ⊢; exact H)
                      have hji41w : (IntKind.i64.wrap (x8_1 + 1)) = ji41 := (i64_w _).trans hji41
                      by_cases c42 : 0 ≤ (ji41)
                      ·rw [if_pos c42] at H
                       have c42b0 : decide (0 ≤ (ji41)) = true := decide_eq_true c42
                       clear c42
                       by_cases c43 : (ji41) < ((rd_L1 t235 (ji38)).length : Int)
                       ·rw [if_pos c43] at H
                        have c43b0 : decide ((ji41) < ((rd_L1 t235 (ji38)).length : Int)) = true := decide_eq_true c43
                        clear c43
                        have H' := Aside0.mk H
                        clear H
                        have p247 : 0 ≤ (x7_1 : Int) := of_decide_eq_true zA
                        have q247 : x7_1 < (l0.length : Int) := of_decide_eq_true zA
                        obtain ⟨ad247, e247, hx247_0⟩ := Kd.at_int HR0.out x7_1 p247 q247
                        cases e247
                        replace hx247_0 := (HB.out.cell (World.block_lt_of_cell? w _ hx247_0)).trans hx247_0
                        replace p247 := eq_true p247
                        replace q247 := eq_true q247
                        have p248 : 0 ≤ (x8_1 : Int) := of_decide_eq_true zA
                        have q248 : x8_1 < (l1.length : Int) := of_decide_eq_true zA
                        obtain ⟨ad248, e248, hx248_0⟩ := Kd.at_int HR1.out x8_1 p248 q248
                        cases e248
                        replace hx248_0 := (HB.out.cell (World.block_lt_of_cell? w _ hx248_0)).trans hx248_0
                        replace p248 := eq_true p248
                        replace q248 := eq_true q248
                        obtain ⟨Ao44, co44, eo44⟩ := Kd.S_slice HO_5.out
                        subst eo44
                        have p249 : 0 ≤ (x7_1 : Int) := of_decide_eq_true zA
                        have q249 : x7_1 < (t235.length : Int) := of_decide_eq_true zA
                        obtain ⟨ad249, A249_0, c249_0, e249, hx249_0, hl249_0, hi249_0⟩ := at_L1 (Kd.S_reads' HO_5.out).2.2 x7_1 p249 q249
                        cases e249
                        obtain ⟨ce249, hce249, hMe249, hcc249⟩ := Kd.S_get HO_5.out [] x7_1 p249 (by first | exact q249 | exact of_decide_eq_true zA | (have e_ := (Kd.S_reads' HO_5.out).1; omega))
                        obtain ⟨ve249_0, rfl, ge249_0⟩ := hMe249
                        have hv249_0 := hcc249 0 _ rfl
                        rw [Nat.add_zero, show ((Kd.slice 3 (Kd.int .i64))).sz = 1 from rfl, Nat.mul_one] at hv249_0
                        replace hv249_0 := Option.some.inj (hv249_0.symm.trans hx249_0)
                        rw [hv249_0] at ge249_0
                        have HL249_0 := Aside0.mk (show Kd.R (Kd.int .i64) 3 _ _ _ _ (rd_L1 t235 x7_1) from ge249_0)
                        clear hv249_0 ge249_0
                        clear hcc249 hce249
                        have HR249_0 := Aside0.mk hi249_0
                        have HC249_0 := Aside0.mk hl249_0
                        clear hi249_0 hl249_0
                        replace p249 := eq_true p249
                        replace q249 := eq_true q249
                        have p250 : 0 ≤ (x8_1 : Int) := of_decide_eq_true zA
                        have q250 : x8_1 < ((rd_L1 t235 x7_1).length : Int) := of_decide_eq_true zA
                        obtain ⟨ad250, e250, hx250_0⟩ := Kd.at_int (zC HR249_0.out) x8_1 p250 q250
                        cases e250
                        replace p250 := eq_true p250
                        replace q250 := eq_true q250
                        have p251 : 0 ≤ ((ji38) : Int) := of_decide_eq_true zA
                        have q251 : (ji38) < (t235.length : Int) := of_decide_eq_true zA
                        obtain ⟨ad251, A251_0, c251_0, e251, hx251_0, hl251_0, hi251_0⟩ := at_L1 (Kd.S_reads' HO_5.out).2.2 (ji38) p251 q251
                        obtain rfl : ad249 = ad251 := (by injection e251)
                        obtain ⟨ce251, hce251, hMe251, hcc251⟩ := Kd.S_get HO_5.out [] (ji38) p251 (by first | exact q251 | exact of_decide_eq_true zA | (have e_ := (Kd.S_reads' HO_5.out).1; omega))
                        obtain ⟨ve251_0, rfl, ge251_0⟩ := hMe251
                        have hv251_0 := hcc251 0 _ rfl
                        rw [Nat.add_zero, show ((Kd.slice 3 (Kd.int .i64))).sz = 1 from rfl, Nat.mul_one] at hv251_0
                        replace hv251_0 := Option.some.inj (hv251_0.symm.trans hx251_0)
                        rw [hv251_0] at ge251_0
                        have HL251_0 := Aside0.mk (show Kd.R (Kd.int .i64) 3 _ _ _ _ (rd_L1 t235 (ji38)) from ge251_0)
                        clear hv251_0 ge251_0
                        clear hcc251 hce251
                        have HR251_0 := Aside0.mk hi251_0
                        have HC251_0 := Aside0.mk hl251_0
                        clear hi251_0 hl251_0
                        replace p251 := eq_true p251
                        replace q251 := eq_true q251
                        have p252 : 0 ≤ ((ji41) : Int) := of_decide_eq_true zA
                        have q252 : (ji41) < ((rd_L1 t235 (ji38)).length : Int) := of_decide_eq_true zA
                        obtain ⟨ad252, e252, hx252_0⟩ := Kd.at_int (zC HR251_0.out) (ji41) p252 q252
                        cases e252
                        replace p252 := eq_true p252
                        replace q252 := eq_true q252
                        go_wp2
                        repeat (go_quiet (fail); try go_wp2)
                        go_meet
                        case rel => exact ⟨_, (((rd (rd_L1 t235 x7_1) x8_1) == (wrap64 ((rd (rd_L1 t235 (ji38)) (ji41)) + 1)))), (by first | rfl | (simp; done) | (simp only [← hji38, ← hji41] <;> (first | rfl | simp)) | (simp [*]; done)), H', ⟨by have := HK1.out; have := HJ4.out; have := HJ7.out; have := HJ9.out; first | omega | exact Nat.le_refl _⟩, ⟨zS HO_5.out⟩, ⟨zR HO_6.out⟩, ⟨zW HB.out⟩⟩
                       ·rw [if_neg c43] at H
                        exact absurd H (by simp)
                      ·rw [if_neg c42] at H
                       exact absurd H (by simp)
                     ·rw [if_neg c40] at H
                      exact absurd H (by simp)
                    ·rw [if_neg c39] at H
                     exact absurd H (by simp)
                   ·rw [if_neg c37] at H
                    exact absurd H (by simp)
                  ·rw [if_neg c36] at H
                   exact absurd H (by simp)
                ·rw [if_neg c34] at H
                 exact absurd H (by simp)
               ·rw [if_neg c33] at H
                exact absurd H (by simp)
              ·rw [if_neg c32] at H
               exact absurd H (by simp)
             ·rw [if_neg c31] at H
              exact absurd H (by simp)
            ·replace c30 := Bool.eq_false_iff.mpr c30
             subst c30
             rw [if_neg (show ¬ (false = true) by decide)] at H
             have H' := Aside0.mk H
             clear H
             go_wp2
             repeat (go_quiet (fail); try go_wp2)
             go_meet
             case rel => exact ⟨_, (false), zE, H', ⟨by have := HK1.out; have := HJ4.out; have := HJ7.out; have := HJ9.out; first | omega | exact Nat.le_refl _⟩, ⟨zS HO_5.out⟩, ⟨zR HO_6.out⟩, ⟨zW HB.out⟩⟩
           case rest =>
            clear HC29
            (try clear c1); (try clear c2); (try clear p2); (try clear q2); (try clear hx2); (try clear c3); (try clear c4); (try clear c6); (try clear c6b0); (try clear p6); (try clear c7); (try clear c9); (try clear c9b0); (try clear c11); (try clear c12); (try clear c12b0); (try clear c13); (try clear c13b0); (try clear c14); (try clear c14b0); (try clear c15); (try clear c15b0); (try clear c16); (try clear c16b0); (try clear c16b1); (try clear c17); (try clear c17b0); (try clear c18); (try clear c18b0); (try clear c20); (try clear c20b0); (try clear c21); (try clear c21b0); (try clear c23); (try clear c23b0); (try clear p23); (try clear q23); (try clear hx23); (try clear c24); (try clear c24b0); (try clear p24); (try clear q24); (try clear hx24); (try clear c25); (try clear p25); (try clear q25); (try clear hx25); (try clear c26); (try clear c27); (try clear c30); (try clear c31); (try clear c31b0); (try clear c32); (try clear c32b0); (try clear c33); (try clear c33b0); (try clear c34); (try clear c34b0); (try clear c35); (try clear c35b0); (try clear c35b1); (try clear c36); (try clear c36b0); (try clear c37); (try clear c37b0); (try clear c39); (try clear c39b0); (try clear c40); (try clear c40b0); (try clear c42); (try clear c42b0); (try clear c43); (try clear c43b0); (try clear hx238_0); (try clear hx239_0); (try clear hx240_0); (try clear hx241_0); (try clear hx242_0); (try clear hx243_0); (try clear hx247_0); (try clear hx248_0); (try clear hx249_0); (try clear hx250_0); (try clear hx251_0); (try clear hx252_0); (try clear p238); (try clear p239); (try clear p240); (try clear p241); (try clear p242); (try clear p243); (try clear p247); (try clear p248); (try clear p249); (try clear p250); (try clear p251); (try clear p252); (try clear q238); (try clear q239); (try clear q240); (try clear q241); (try clear q242); (try clear q243); (try clear q247); (try clear q248); (try clear q249); (try clear q250); (try clear q251); (try clear q252)
            obtain ⟨kq, x77_28, rfl, HA, HJ28, HO_5, HO_6, HB⟩ := hcut
            cases kq with
            | zero => exact absurd HA.out (by simp [aircheckref36_ops.j4])
            | succ kj28 =>
             have H := HA.out
             clear HA
             simp only [aircheckref36_ops.j4] at H
             by_cases c45 : x77_28 = true
             ·subst c45
              rw [if_pos rfl] at H
              by_cases c46 : x6_1.length < 17592186044416
              ·rw [if_pos c46] at H
               have LMc46 := Aside0.mk c46
               clear c46
               obtain ⟨y253, hy253⟩ : ∃ y_ : List Int, y_ = (x6_1 ++ [2]) := ⟨_, rfl⟩
               replace H : (aircheckref36_ops.l0 kj28 l0 l1 t235 y253 (wrap64 (x7_1 + 1)) (wrap64 (x8_1 + 1))) = some r := by first | (rw [hy253]; with_reducible exact H) | (have H2_ := (Option.bind_some _ _).symm.trans H; rw [hy253]; with_reducible exact H2_) | (have H2_ := (Option.bind_some _ _).symm.trans H; with_reducible exact H2_) | with_reducible exact H | (rw [hy253]; exact H) | exact H
               have Ny253 := Aside0.mk hy253
               clear hy253
               have H' := Aside0.mk H
               clear H
               go_wp2_with (first | ((with_reducible refine gate_builtin (b := .append) (xs := #[.tmp 110, .tmp 111]) rfl ?_); (try (refine gate_guard (by rfl) ?_; dsimp only)); at_builtin; refine Kd.R_append (Kd.int .i64) (w0 := w) w.heap.size rfl (.tmp 110) (.tmp 111) 22 3 (.int .i64 0) 8 rfl Try.underlying22 info3 rfl (by decide) (by omega) u6 x6_1 2 [.int .i64 2] (fun _ => True) (fun _ => False) rfl rfl ?aP (fun _ hk => hk.elim) ?aF ?aO ?aB ?aS ?aL ?_; (case aP => exact rfl); (case aB => exact (zW HB.out)); (case aF => exact (fun _ _ => trivial)); (case aO => exact (zR HO_6.out)); (case aS => exact (below_size (zW HB.out))); (case aL => have := LMc46.out; omega); intro v254 w47 ho hb hg hat; rw [← Ny253.out] at ho; have n0_ := Aside0.mk (Kd.S_after (ok := (fun _ => True)) (by (with_reducible repeat (first | apply Kd.S_alloc | apply Kd.S_drewN | apply Kd.S_drew)); exact Kd.S_mono HO_5.out (fun _ hk => ⟨trivial, hk⟩)) hg hat); have n1_ := Aside0.mk (hb); have n2_ := Aside0.mk (ho); clear HO_5; clear HB; clear HO_6; have HO_5 := n0_; have HB := n1_; have HO255 := n2_; clear n0_ n1_ n2_; clear ho hb hg hat))
               repeat (go_quiet (first | ((with_reducible refine gate_builtin (b := .append) (xs := #[.tmp 110, .tmp 111]) rfl ?_); (try (refine gate_guard (by rfl) ?_; dsimp only)); at_builtin; refine Kd.R_append (Kd.int .i64) (w0 := w) w.heap.size rfl (.tmp 110) (.tmp 111) 22 3 (.int .i64 0) 8 rfl Try.underlying22 info3 rfl (by decide) (by omega) u6 x6_1 2 [.int .i64 2] (fun _ => True) (fun _ => False) rfl rfl ?aP (fun _ hk => hk.elim) ?aF ?aO ?aB ?aS ?aL ?_; (case aP => exact rfl); (case aB => exact (zW HB.out)); (case aF => exact (fun _ _ => trivial)); (case aO => exact (zR HO_6.out)); (case aS => exact (below_size (zW HB.out))); (case aL => have := LMc46.out; omega); intro v254 w47 ho hb hg hat; rw [← Ny253.out] at ho; have n0_ := Aside0.mk (Kd.S_after (ok := (fun _ => True)) (by (with_reducible repeat (first | apply Kd.S_alloc | apply Kd.S_drewN | apply Kd.S_drew)); exact Kd.S_mono HO_5.out (fun _ hk => ⟨trivial, hk⟩)) hg hat); have n1_ := Aside0.mk (hb); have n2_ := Aside0.mk (ho); clear HO_5; clear HB; clear HO_6; have HO_5 := n0_; have HB := n1_; have HO255 := n2_; clear n0_ n1_ n2_; clear ho hb hg hat)); try go_wp2_with (first | ((with_reducible refine gate_builtin (b := .append) (xs := #[.tmp 110, .tmp 111]) rfl ?_); (try (refine gate_guard (by rfl) ?_; dsimp only)); at_builtin; refine Kd.R_append (Kd.int .i64) (w0 := w) w.heap.size rfl (.tmp 110) (.tmp 111) 22 3 (.int .i64 0) 8 rfl Try.underlying22 info3 rfl (by decide) (by omega) u6 x6_1 2 [.int .i64 2] (fun _ => True) (fun _ => False) rfl rfl ?aP (fun _ hk => hk.elim) ?aF ?aO ?aB ?aS ?aL ?_; (case aP => exact rfl); (case aB => exact (zW HB.out)); (case aF => exact (fun _ _ => trivial)); (case aO => exact (zR HO_6.out)); (case aS => exact (below_size (zW HB.out))); (case aL => have := LMc46.out; omega); intro v254 w47 ho hb hg hat; rw [← Ny253.out] at ho; have n0_ := Aside0.mk (Kd.S_after (ok := (fun _ => True)) (by (with_reducible repeat (first | apply Kd.S_alloc | apply Kd.S_drewN | apply Kd.S_drew)); exact Kd.S_mono HO_5.out (fun _ hk => ⟨trivial, hk⟩)) hg hat); have n1_ := Aside0.mk (hb); have n2_ := Aside0.mk (ho); clear HO_5; clear HB; clear HO_6; have HO_5 := n0_; have HB := n1_; have HO255 := n2_; clear n0_ n1_ n2_; clear ho hb hg hat)))
               go_roundg kj28
               case measure => have := HK1.out; have := HJ4.out; have := HJ7.out; have := HJ9.out; have := HJ28.out; omega
               case rel => exact ⟨(y253), (wrap64 (x7_1 + 1)), (wrap64 (x8_1 + 1)), zE, zE, H', ⟨by have := HK1.out; have := HJ4.out; have := HJ7.out; have := HJ9.out; have := HJ28.out; omega⟩, ⟨by (with_reducible repeat (first | apply Kd.S_alloc | apply Kd.S_drewN | apply Kd.S_drew)); exact Kd.S_mono HO_5.out (fun _ hk => hk.2)⟩, ⟨zR HO255.out⟩, ⟨zW HB.out⟩⟩
              ·rw [if_neg c46] at H
               exact absurd H (by simp)
             ·replace c45 := Bool.eq_false_iff.mpr c45
              subst c45
              rw [if_neg (show ¬ (false = true) by decide)] at H
              by_cases c48 : x7_1 < (l0.length : Int)
              ·rw [if_pos c48] at H
               have c48b0 : decide (x7_1 < (l0.length : Int)) = true := decide_eq_true c48
               clear c48
               by_cases c49 : 0 ≤ x7_1
               ·rw [if_pos c49] at H
                have c49b0 : decide (0 ≤ x7_1) = true := decide_eq_true c49
                clear c49
                by_cases c50 : x7_1 < (t235.length : Int)
                ·rw [if_pos c50] at H
                 have c50b0 : decide (x7_1 < (t235.length : Int)) = true := decide_eq_true c50
                 clear c50
                 by_cases c51 : 0 ≤ x8_1
                 ·rw [if_pos c51] at H
                  have c51b0 : decide (0 ≤ x8_1) = true := decide_eq_true c51
                  clear c51
                  by_cases c52 : x8_1 < ((rd_L1 t235 x7_1).length : Int)
                  ·rw [if_pos c52] at H
                   have c52b0 : decide (x8_1 < ((rd_L1 t235 x7_1).length : Int)) = true := decide_eq_true c52
                   clear c52
                   obtain ⟨ji53, hji53⟩ : ∃ j_ : Int, (wrap64 (x7_1 + 1)) = j_ := ⟨_, rfl⟩
                   replace H : (if 0 ≤ (ji53) then (if (ji53) < (t235.length : Int) then (if x8_1 < ((rd_L1 t235 (ji53)).length : Int) then (if (rd (rd_L1 t235 x7_1) x8_1) = (wrap64 ((rd (rd_L1 t235 (ji53)) x8_1) + 1)) then (if x6_1.length < 17592186044416 then (aircheckref36_ops.l0 kj28 l0 l1 t235 (x6_1 ++ [3]) ji53 x8_1) else (none)) else (if x6_1.length < 17592186044416 then (aircheckref36_ops.l0 kj28 l0 l1 t235 (x6_1 ++ [4]) x7_1 (wrap64 (x8_1 + 1))) else (none))) else (none)) else (none)) else (none)) = some r := by first | (rw [hji53] at H; exact H) | (simp only [hji53] at H ⊢; exact H)
                   have hji53w : (IntKind.i64.wrap (x7_1 + 1)) = ji53 := (i64_w _).trans hji53
                   by_cases c54 : 0 ≤ (ji53)
                   ·rw [if_pos c54] at H
                    have c54b0 : decide (0 ≤ (ji53)) = true := decide_eq_true c54
                    clear c54
                    by_cases c55 : (ji53) < (t235.length : Int)
                    ·rw [if_pos c55] at H
                     have c55b0 : decide ((ji53) < (t235.length : Int)) = true := decide_eq_true c55
                     clear c55
                     by_cases c56 : x8_1 < ((rd_L1 t235 (ji53)).length : Int)
                     ·rw [if_pos c56] at H
                      have c56b0 : decide (x8_1 < ((rd_L1 t235 (ji53)).length : Int)) = true := decide_eq_true c56
                      clear c56
                      by_cases c57 : (rd (rd_L1 t235 x7_1) x8_1) = (wrap64 ((rd (rd_L1 t235 (ji53)) x8_1) + 1))
                      ·rw [if_pos c57] at H
                       have c57b0 : ((rd (rd_L1 t235 x7_1) x8_1) == (wrap64 ((rd (rd_L1 t235 (ji53)) x8_1) + 1))) = true := beq_iff_eq.mpr c57
                       have c57b1 : ((rd (rd_L1 t235 x7_1) x8_1) != (wrap64 ((rd (rd_L1 t235 (ji53)) x8_1) + 1))) = false := bne_eq_false_iff_eq.mpr c57
                       clear c57
                       by_cases c58 : x6_1.length < 17592186044416
                       ·rw [if_pos c58] at H
                        have LMc58 := Aside0.mk c58
                        clear c58
                        obtain ⟨y260, hy260⟩ : ∃ y_ : List Int, y_ = (x6_1 ++ [3]) := ⟨_, rfl⟩
                        replace H : (aircheckref36_ops.l0 kj28 l0 l1 t235 y260 ji53 x8_1) = some r := by first | (rw [hy260]; with_reducible exact H) | (have H2_ := (Option.bind_some _ _).symm.trans H; rw [hy260]; with_reducible exact H2_) | (have H2_ := (Option.bind_some _ _).symm.trans H; with_reducible exact H2_) | with_reducible exact H | (rw [hy260]; exact H) | exact H
                        have Ny260 := Aside0.mk hy260
                        clear hy260
                        have H' := Aside0.mk H
                        clear H
                        obtain ⟨Ao59, co59, eo59⟩ := Kd.S_slice HO_5.out
                        subst eo59
                        have p256 : 0 ≤ (x7_1 : Int) := of_decide_eq_true zA
                        have q256 : x7_1 < (t235.length : Int) := of_decide_eq_true zA
                        obtain ⟨ad256, A256_0, c256_0, e256, hx256_0, hl256_0, hi256_0⟩ := at_L1 (Kd.S_reads' HO_5.out).2.2 x7_1 p256 q256
                        cases e256
                        obtain ⟨ce256, hce256, hMe256, hcc256⟩ := Kd.S_get HO_5.out [] x7_1 p256 (by first | exact q256 | exact of_decide_eq_true zA | (have e_ := (Kd.S_reads' HO_5.out).1; omega))
                        obtain ⟨ve256_0, rfl, ge256_0⟩ := hMe256
                        have hv256_0 := hcc256 0 _ rfl
                        rw [Nat.add_zero, show ((Kd.slice 3 (Kd.int .i64))).sz = 1 from rfl, Nat.mul_one] at hv256_0
                        replace hv256_0 := Option.some.inj (hv256_0.symm.trans hx256_0)
                        rw [hv256_0] at ge256_0
                        have HL256_0 := Aside0.mk (show Kd.R (Kd.int .i64) 3 _ _ _ _ (rd_L1 t235 x7_1) from ge256_0)
                        clear hv256_0 ge256_0
                        clear hcc256 hce256
                        have HR256_0 := Aside0.mk hi256_0
                        have HC256_0 := Aside0.mk hl256_0
                        clear hi256_0 hl256_0
                        replace p256 := eq_true p256
                        replace q256 := eq_true q256
                        have p257 : 0 ≤ (x8_1 : Int) := of_decide_eq_true zA
                        have q257 : x8_1 < ((rd_L1 t235 x7_1).length : Int) := of_decide_eq_true zA
                        obtain ⟨ad257, e257, hx257_0⟩ := Kd.at_int (zC HR256_0.out) x8_1 p257 q257
                        cases e257
                        replace p257 := eq_true p257
                        replace q257 := eq_true q257
                        have p258 : 0 ≤ ((ji53) : Int) := of_decide_eq_true zA
                        have q258 : (ji53) < (t235.length : Int) := of_decide_eq_true zA
                        obtain ⟨ad258, A258_0, c258_0, e258, hx258_0, hl258_0, hi258_0⟩ := at_L1 (Kd.S_reads' HO_5.out).2.2 (ji53) p258 q258
                        obtain rfl : ad256 = ad258 := (by injection e258)
                        obtain ⟨ce258, hce258, hMe258, hcc258⟩ := Kd.S_get HO_5.out [] (ji53) p258 (by first | exact q258 | exact of_decide_eq_true zA | (have e_ := (Kd.S_reads' HO_5.out).1; omega))
                        obtain ⟨ve258_0, rfl, ge258_0⟩ := hMe258
                        have hv258_0 := hcc258 0 _ rfl
                        rw [Nat.add_zero, show ((Kd.slice 3 (Kd.int .i64))).sz = 1 from rfl, Nat.mul_one] at hv258_0
                        replace hv258_0 := Option.some.inj (hv258_0.symm.trans hx258_0)
                        rw [hv258_0] at ge258_0
                        have HL258_0 := Aside0.mk (show Kd.R (Kd.int .i64) 3 _ _ _ _ (rd_L1 t235 (ji53)) from ge258_0)
                        clear hv258_0 ge258_0
                        clear hcc258 hce258
                        have HR258_0 := Aside0.mk hi258_0
                        have HC258_0 := Aside0.mk hl258_0
                        clear hi258_0 hl258_0
                        replace p258 := eq_true p258
                        replace q258 := eq_true q258
                        have p259 : 0 ≤ (x8_1 : Int) := of_decide_eq_true zA
                        have q259 : x8_1 < ((rd_L1 t235 (ji53)).length : Int) := of_decide_eq_true zA
                        obtain ⟨ad259, e259, hx259_0⟩ := Kd.at_int (zC HR258_0.out) x8_1 p259 q259
                        cases e259
                        replace p259 := eq_true p259
                        replace q259 := eq_true q259
                        go_wp2_with (first | ((with_reducible refine gate_builtin (b := .append) (xs := #[.tmp 141, .tmp 142]) rfl ?_); (try (refine gate_guard (by rfl) ?_; dsimp only)); at_builtin; refine Kd.R_append (Kd.int .i64) (w0 := w) w.heap.size rfl (.tmp 141) (.tmp 142) 22 3 (.int .i64 0) 8 rfl Try.underlying22 info3 rfl (by decide) (by omega) u6 x6_1 3 [.int .i64 3] (fun _ => True) (fun _ => False) rfl rfl ?aP (fun _ hk => hk.elim) ?aF ?aO ?aB ?aS ?aL ?_; (case aP => exact rfl); (case aB => exact (zW HB.out)); (case aF => exact (fun _ _ => trivial)); (case aO => exact (zR HO_6.out)); (case aS => exact (below_size (zW HB.out))); (case aL => have := LMc58.out; omega); intro v261 w60 ho hb hg hat; rw [← Ny260.out] at ho; have n0_ := Aside0.mk (Kd.S_after (ok := (fun _ => True)) (by (with_reducible repeat (first | apply Kd.S_alloc | apply Kd.S_drewN | apply Kd.S_drew)); exact Kd.S_mono HO_5.out (fun _ hk => ⟨trivial, hk⟩)) hg hat); have n1_ := Aside0.mk (Kd.R_after (ok := (fun k_ => some k_ ≠ (.slice (some ad256) t235.length co59 : Value).ownBlock)) (by (with_reducible repeat (first | apply Kd.R_alloc | apply Kd.R_drewN | apply Kd.R_drew)); exact Kd.R_mono HL256_0.out (fun _ hk => ⟨hk.2, hk.1⟩)) hg hat); have n2_ := Aside0.mk (Kd.R_after (ok := (fun k_ => some k_ ≠ (.slice (some ad256) t235.length co59 : Value).ownBlock)) (by (with_reducible repeat (first | apply Kd.R_alloc | apply Kd.R_drewN | apply Kd.R_drew)); exact Kd.R_mono HL258_0.out (fun _ hk => ⟨hk.2, hk.1⟩)) hg hat); have n3_ := Aside0.mk (hb); have n4_ := Aside0.mk (ho); clear HO_5; clear HL256_0; clear HL258_0; clear HB; clear HO_6; have HO_5 := n0_; have HL256_0 := n1_; have HL258_0 := n2_; have HB := n3_; have HO262 := n4_; clear n0_ n1_ n2_ n3_ n4_; clear ho hb hg hat))
                        repeat (go_quiet (first | ((with_reducible refine gate_builtin (b := .append) (xs := #[.tmp 141, .tmp 142]) rfl ?_); (try (refine gate_guard (by rfl) ?_; dsimp only)); at_builtin; refine Kd.R_append (Kd.int .i64) (w0 := w) w.heap.size rfl (.tmp 141) (.tmp 142) 22 3 (.int .i64 0) 8 rfl Try.underlying22 info3 rfl (by decide) (by omega) u6 x6_1 3 [.int .i64 3] (fun _ => True) (fun _ => False) rfl rfl ?aP (fun _ hk => hk.elim) ?aF ?aO ?aB ?aS ?aL ?_; (case aP => exact rfl); (case aB => exact (zW HB.out)); (case aF => exact (fun _ _ => trivial)); (case aO => exact (zR HO_6.out)); (case aS => exact (below_size (zW HB.out))); (case aL => have := LMc58.out; omega); intro v261 w60 ho hb hg hat; rw [← Ny260.out] at ho; have n0_ := Aside0.mk (Kd.S_after (ok := (fun _ => True)) (by (with_reducible repeat (first | apply Kd.S_alloc | apply Kd.S_drewN | apply Kd.S_drew)); exact Kd.S_mono HO_5.out (fun _ hk => ⟨trivial, hk⟩)) hg hat); have n1_ := Aside0.mk (Kd.R_after (ok := (fun k_ => some k_ ≠ (.slice (some ad256) t235.length co59 : Value).ownBlock)) (by (with_reducible repeat (first | apply Kd.R_alloc | apply Kd.R_drewN | apply Kd.R_drew)); exact Kd.R_mono HL256_0.out (fun _ hk => ⟨hk.2, hk.1⟩)) hg hat); have n2_ := Aside0.mk (Kd.R_after (ok := (fun k_ => some k_ ≠ (.slice (some ad256) t235.length co59 : Value).ownBlock)) (by (with_reducible repeat (first | apply Kd.R_alloc | apply Kd.R_drewN | apply Kd.R_drew)); exact Kd.R_mono HL258_0.out (fun _ hk => ⟨hk.2, hk.1⟩)) hg hat); have n3_ := Aside0.mk (hb); have n4_ := Aside0.mk (ho); clear HO_5; clear HL256_0; clear HL258_0; clear HB; clear HO_6; have HO_5 := n0_; have HL256_0 := n1_; have HL258_0 := n2_; have HB := n3_; have HO262 := n4_; clear n0_ n1_ n2_ n3_ n4_; clear ho hb hg hat)); try go_wp2_with (first | ((with_reducible refine gate_builtin (b := .append) (xs := #[.tmp 141, .tmp 142]) rfl ?_); (try (refine gate_guard (by rfl) ?_; dsimp only)); at_builtin; refine Kd.R_append (Kd.int .i64) (w0 := w) w.heap.size rfl (.tmp 141) (.tmp 142) 22 3 (.int .i64 0) 8 rfl Try.underlying22 info3 rfl (by decide) (by omega) u6 x6_1 3 [.int .i64 3] (fun _ => True) (fun _ => False) rfl rfl ?aP (fun _ hk => hk.elim) ?aF ?aO ?aB ?aS ?aL ?_; (case aP => exact rfl); (case aB => exact (zW HB.out)); (case aF => exact (fun _ _ => trivial)); (case aO => exact (zR HO_6.out)); (case aS => exact (below_size (zW HB.out))); (case aL => have := LMc58.out; omega); intro v261 w60 ho hb hg hat; rw [← Ny260.out] at ho; have n0_ := Aside0.mk (Kd.S_after (ok := (fun _ => True)) (by (with_reducible repeat (first | apply Kd.S_alloc | apply Kd.S_drewN | apply Kd.S_drew)); exact Kd.S_mono HO_5.out (fun _ hk => ⟨trivial, hk⟩)) hg hat); have n1_ := Aside0.mk (Kd.R_after (ok := (fun k_ => some k_ ≠ (.slice (some ad256) t235.length co59 : Value).ownBlock)) (by (with_reducible repeat (first | apply Kd.R_alloc | apply Kd.R_drewN | apply Kd.R_drew)); exact Kd.R_mono HL256_0.out (fun _ hk => ⟨hk.2, hk.1⟩)) hg hat); have n2_ := Aside0.mk (Kd.R_after (ok := (fun k_ => some k_ ≠ (.slice (some ad256) t235.length co59 : Value).ownBlock)) (by (with_reducible repeat (first | apply Kd.R_alloc | apply Kd.R_drewN | apply Kd.R_drew)); exact Kd.R_mono HL258_0.out (fun _ hk => ⟨hk.2, hk.1⟩)) hg hat); have n3_ := Aside0.mk (hb); have n4_ := Aside0.mk (ho); clear HO_5; clear HL256_0; clear HL258_0; clear HB; clear HO_6; have HO_5 := n0_; have HL256_0 := n1_; have HL258_0 := n2_; have HB := n3_; have HO262 := n4_; clear n0_ n1_ n2_ n3_ n4_; clear ho hb hg hat)))
                        go_roundg kj28
                        case measure => have := HK1.out; have := HJ4.out; have := HJ7.out; have := HJ9.out; have := HJ28.out; omega
                        case rel => exact ⟨(y260), (ji53), (x8_1), (by first | rfl | (simp; done) | (simp only [← hji53] <;> (first | rfl | simp)) | (simp [*]; done)), zE, H', ⟨by have := HK1.out; have := HJ4.out; have := HJ7.out; have := HJ9.out; have := HJ28.out; omega⟩, ⟨by (with_reducible repeat (first | apply Kd.S_alloc | apply Kd.S_drewN | apply Kd.S_drew)); exact Kd.S_mono HO_5.out (fun _ hk => hk.2)⟩, ⟨zR HO262.out⟩, ⟨zW HB.out⟩⟩
                       ·rw [if_neg c58] at H
                        exact absurd H (by simp)
                      ·rw [if_neg c57] at H
                       have c57b0 : ((rd (rd_L1 t235 x7_1) x8_1) == (wrap64 ((rd (rd_L1 t235 (ji53)) x8_1) + 1))) = false := beq_eq_false_iff_ne.mpr c57
                       have c57b1 : ((rd (rd_L1 t235 x7_1) x8_1) != (wrap64 ((rd (rd_L1 t235 (ji53)) x8_1) + 1))) = true := bne_iff_ne.mpr c57
                       by_cases c61 : x6_1.length < 17592186044416
                       ·rw [if_pos c61] at H
                        have LMc61 := Aside0.mk c61
                        clear c61
                        obtain ⟨y263, hy263⟩ : ∃ y_ : List Int, y_ = (x6_1 ++ [4]) := ⟨_, rfl⟩
                        replace H : (aircheckref36_ops.l0 kj28 l0 l1 t235 y263 x7_1 (wrap64 (x8_1 + 1))) = some r := by first | (rw [hy263]; with_reducible exact H) | (have H2_ := (Option.bind_some _ _).symm.trans H; rw [hy263]; with_reducible exact H2_) | (have H2_ := (Option.bind_some _ _).symm.trans H; with_reducible exact H2_) | with_reducible exact H | (rw [hy263]; exact H) | exact H
                        have Ny263 := Aside0.mk hy263
                        clear hy263
                        have H' := Aside0.mk H
                        clear H
                        obtain ⟨Ao62, co62, eo62⟩ := Kd.S_slice HO_5.out
                        subst eo62
                        have p256 : 0 ≤ (x7_1 : Int) := of_decide_eq_true zA
                        have q256 : x7_1 < (t235.length : Int) := of_decide_eq_true zA
                        obtain ⟨ad256, A256_0, c256_0, e256, hx256_0, hl256_0, hi256_0⟩ := at_L1 (Kd.S_reads' HO_5.out).2.2 x7_1 p256 q256
                        cases e256
                        obtain ⟨ce256, hce256, hMe256, hcc256⟩ := Kd.S_get HO_5.out [] x7_1 p256 (by first | exact q256 | exact of_decide_eq_true zA | (have e_ := (Kd.S_reads' HO_5.out).1; omega))
                        obtain ⟨ve256_0, rfl, ge256_0⟩ := hMe256
                        have hv256_0 := hcc256 0 _ rfl
                        rw [Nat.add_zero, show ((Kd.slice 3 (Kd.int .i64))).sz = 1 from rfl, Nat.mul_one] at hv256_0
                        replace hv256_0 := Option.some.inj (hv256_0.symm.trans hx256_0)
                        rw [hv256_0] at ge256_0
                        have HL256_0 := Aside0.mk (show Kd.R (Kd.int .i64) 3 _ _ _ _ (rd_L1 t235 x7_1) from ge256_0)
                        clear hv256_0 ge256_0
                        clear hcc256 hce256
                        have HR256_0 := Aside0.mk hi256_0
                        have HC256_0 := Aside0.mk hl256_0
                        clear hi256_0 hl256_0
                        replace p256 := eq_true p256
                        replace q256 := eq_true q256
                        have p257 : 0 ≤ (x8_1 : Int) := of_decide_eq_true zA
                        have q257 : x8_1 < ((rd_L1 t235 x7_1).length : Int) := of_decide_eq_true zA
                        obtain ⟨ad257, e257, hx257_0⟩ := Kd.at_int (zC HR256_0.out) x8_1 p257 q257
                        cases e257
                        replace p257 := eq_true p257
                        replace q257 := eq_true q257
                        have p258 : 0 ≤ ((ji53) : Int) := of_decide_eq_true zA
                        have q258 : (ji53) < (t235.length : Int) := of_decide_eq_true zA
                        obtain ⟨ad258, A258_0, c258_0, e258, hx258_0, hl258_0, hi258_0⟩ := at_L1 (Kd.S_reads' HO_5.out).2.2 (ji53) p258 q258
                        obtain rfl : ad256 = ad258 := (by injection e258)
                        obtain ⟨ce258, hce258, hMe258, hcc258⟩ := Kd.S_get HO_5.out [] (ji53) p258 (by first | exact q258 | exact of_decide_eq_true zA | (have e_ := (Kd.S_reads' HO_5.out).1; omega))
                        obtain ⟨ve258_0, rfl, ge258_0⟩ := hMe258
                        have hv258_0 := hcc258 0 _ rfl
                        rw [Nat.add_zero, show ((Kd.slice 3 (Kd.int .i64))).sz = 1 from rfl, Nat.mul_one] at hv258_0
                        replace hv258_0 := Option.some.inj (hv258_0.symm.trans hx258_0)
                        rw [hv258_0] at ge258_0
                        have HL258_0 := Aside0.mk (show Kd.R (Kd.int .i64) 3 _ _ _ _ (rd_L1 t235 (ji53)) from ge258_0)
                        clear hv258_0 ge258_0
                        clear hcc258 hce258
                        have HR258_0 := Aside0.mk hi258_0
                        have HC258_0 := Aside0.mk hl258_0
                        clear hi258_0 hl258_0
                        replace p258 := eq_true p258
                        replace q258 := eq_true q258
                        have p259 : 0 ≤ (x8_1 : Int) := of_decide_eq_true zA
                        have q259 : x8_1 < ((rd_L1 t235 (ji53)).length : Int) := of_decide_eq_true zA
                        obtain ⟨ad259, e259, hx259_0⟩ := Kd.at_int (zC HR258_0.out) x8_1 p259 q259
                        cases e259
                        replace p259 := eq_true p259
                        replace q259 := eq_true q259
                        go_wp2_with (first | ((with_reducible refine gate_builtin (b := .append) (xs := #[.tmp 33, .tmp 34]) rfl ?_); (try (refine gate_guard (by rfl) ?_; dsimp only)); at_builtin; refine Kd.R_append (Kd.int .i64) (w0 := w) w.heap.size rfl (.tmp 33) (.tmp 34) 22 3 (.int .i64 0) 8 rfl Try.underlying22 info3 rfl (by decide) (by omega) u6 x6_1 4 [.int .i64 4] (fun _ => True) (fun _ => False) rfl rfl ?aP (fun _ hk => hk.elim) ?aF ?aO ?aB ?aS ?aL ?_; (case aP => exact rfl); (case aB => exact (zW HB.out)); (case aF => exact (fun _ _ => trivial)); (case aO => exact (zR HO_6.out)); (case aS => exact (below_size (zW HB.out))); (case aL => have := LMc61.out; omega); intro v264 w63 ho hb hg hat; rw [← Ny263.out] at ho; have n0_ := Aside0.mk (Kd.S_after (ok := (fun _ => True)) (by (with_reducible repeat (first | apply Kd.S_alloc | apply Kd.S_drewN | apply Kd.S_drew)); exact Kd.S_mono HO_5.out (fun _ hk => ⟨trivial, hk⟩)) hg hat); have n1_ := Aside0.mk (Kd.R_after (ok := (fun k_ => some k_ ≠ (.slice (some ad256) t235.length co62 : Value).ownBlock)) (by (with_reducible repeat (first | apply Kd.R_alloc | apply Kd.R_drewN | apply Kd.R_drew)); exact Kd.R_mono HL256_0.out (fun _ hk => ⟨hk.2, hk.1⟩)) hg hat); have n2_ := Aside0.mk (Kd.R_after (ok := (fun k_ => some k_ ≠ (.slice (some ad256) t235.length co62 : Value).ownBlock)) (by (with_reducible repeat (first | apply Kd.R_alloc | apply Kd.R_drewN | apply Kd.R_drew)); exact Kd.R_mono HL258_0.out (fun _ hk => ⟨hk.2, hk.1⟩)) hg hat); have n3_ := Aside0.mk (hb); have n4_ := Aside0.mk (ho); clear HO_5; clear HL256_0; clear HL258_0; clear HB; clear HO_6; have HO_5 := n0_; have HL256_0 := n1_; have HL258_0 := n2_; have HB := n3_; have HO265 := n4_; clear n0_ n1_ n2_ n3_ n4_; clear ho hb hg hat))
                        repeat (go_quiet (first | ((with_reducible refine gate_builtin (b := .append) (xs := #[.tmp 33, .tmp 34]) rfl ?_); (try (refine gate_guard (by rfl) ?_; dsimp only)); at_builtin; refine Kd.R_append (Kd.int .i64) (w0 := w) w.heap.size rfl (.tmp 33) (.tmp 34) 22 3 (.int .i64 0) 8 rfl Try.underlying22 info3 rfl (by decide) (by omega) u6 x6_1 4 [.int .i64 4] (fun _ => True) (fun _ => False) rfl rfl ?aP (fun _ hk => hk.elim) ?aF ?aO ?aB ?aS ?aL ?_; (case aP => exact rfl); (case aB => exact (zW HB.out)); (case aF => exact (fun _ _ => trivial)); (case aO => exact (zR HO_6.out)); (case aS => exact (below_size (zW HB.out))); (case aL => have := LMc61.out; omega); intro v264 w63 ho hb hg hat; rw [← Ny263.out] at ho; have n0_ := Aside0.mk (Kd.S_after (ok := (fun _ => True)) (by (with_reducible repeat (first | apply Kd.S_alloc | apply Kd.S_drewN | apply Kd.S_drew)); exact Kd.S_mono HO_5.out (fun _ hk => ⟨trivial, hk⟩)) hg hat); have n1_ := Aside0.mk (Kd.R_after (ok := (fun k_ => some k_ ≠ (.slice (some ad256) t235.length co62 : Value).ownBlock)) (by (with_reducible repeat (first | apply Kd.R_alloc | apply Kd.R_drewN | apply Kd.R_drew)); exact Kd.R_mono HL256_0.out (fun _ hk => ⟨hk.2, hk.1⟩)) hg hat); have n2_ := Aside0.mk (Kd.R_after (ok := (fun k_ => some k_ ≠ (.slice (some ad256) t235.length co62 : Value).ownBlock)) (by (with_reducible repeat (first | apply Kd.R_alloc | apply Kd.R_drewN | apply Kd.R_drew)); exact Kd.R_mono HL258_0.out (fun _ hk => ⟨hk.2, hk.1⟩)) hg hat); have n3_ := Aside0.mk (hb); have n4_ := Aside0.mk (ho); clear HO_5; clear HL256_0; clear HL258_0; clear HB; clear HO_6; have HO_5 := n0_; have HL256_0 := n1_; have HL258_0 := n2_; have HB := n3_; have HO265 := n4_; clear n0_ n1_ n2_ n3_ n4_; clear ho hb hg hat)); try go_wp2_with (first | ((with_reducible refine gate_builtin (b := .append) (xs := #[.tmp 33, .tmp 34]) rfl ?_); (try (refine gate_guard (by rfl) ?_; dsimp only)); at_builtin; refine Kd.R_append (Kd.int .i64) (w0 := w) w.heap.size rfl (.tmp 33) (.tmp 34) 22 3 (.int .i64 0) 8 rfl Try.underlying22 info3 rfl (by decide) (by omega) u6 x6_1 4 [.int .i64 4] (fun _ => True) (fun _ => False) rfl rfl ?aP (fun _ hk => hk.elim) ?aF ?aO ?aB ?aS ?aL ?_; (case aP => exact rfl); (case aB => exact (zW HB.out)); (case aF => exact (fun _ _ => trivial)); (case aO => exact (zR HO_6.out)); (case aS => exact (below_size (zW HB.out))); (case aL => have := LMc61.out; omega); intro v264 w63 ho hb hg hat; rw [← Ny263.out] at ho; have n0_ := Aside0.mk (Kd.S_after (ok := (fun _ => True)) (by (with_reducible repeat (first | apply Kd.S_alloc | apply Kd.S_drewN | apply Kd.S_drew)); exact Kd.S_mono HO_5.out (fun _ hk => ⟨trivial, hk⟩)) hg hat); have n1_ := Aside0.mk (Kd.R_after (ok := (fun k_ => some k_ ≠ (.slice (some ad256) t235.length co62 : Value).ownBlock)) (by (with_reducible repeat (first | apply Kd.R_alloc | apply Kd.R_drewN | apply Kd.R_drew)); exact Kd.R_mono HL256_0.out (fun _ hk => ⟨hk.2, hk.1⟩)) hg hat); have n2_ := Aside0.mk (Kd.R_after (ok := (fun k_ => some k_ ≠ (.slice (some ad256) t235.length co62 : Value).ownBlock)) (by (with_reducible repeat (first | apply Kd.R_alloc | apply Kd.R_drewN | apply Kd.R_drew)); exact Kd.R_mono HL258_0.out (fun _ hk => ⟨hk.2, hk.1⟩)) hg hat); have n3_ := Aside0.mk (hb); have n4_ := Aside0.mk (ho); clear HO_5; clear HL256_0; clear HL258_0; clear HB; clear HO_6; have HO_5 := n0_; have HL256_0 := n1_; have HL258_0 := n2_; have HB := n3_; have HO265 := n4_; clear n0_ n1_ n2_ n3_ n4_; clear ho hb hg hat)))
                        go_roundg kj28
                        case measure => have := HK1.out; have := HJ4.out; have := HJ7.out; have := HJ9.out; have := HJ28.out; omega
                        case rel => exact ⟨(y263), (x7_1), (wrap64 (x8_1 + 1)), zE, zE, H', ⟨by have := HK1.out; have := HJ4.out; have := HJ7.out; have := HJ9.out; have := HJ28.out; omega⟩, ⟨by (with_reducible repeat (first | apply Kd.S_alloc | apply Kd.S_drewN | apply Kd.S_drew)); exact Kd.S_mono HO_5.out (fun _ hk => hk.2)⟩, ⟨zR HO265.out⟩, ⟨zW HB.out⟩⟩
                       ·rw [if_neg c61] at H
                        exact absurd H (by simp)
                     ·rw [if_neg c56] at H
                      exact absurd H (by simp)
                    ·rw [if_neg c55] at H
                     exact absurd H (by simp)
                   ·rw [if_neg c54] at H
                    exact absurd H (by simp)
                  ·rw [if_neg c52] at H
                   exact absurd H (by simp)
                 ·rw [if_neg c51] at H
                  exact absurd H (by simp)
                ·rw [if_neg c50] at H
                 exact absurd H (by simp)
               ·rw [if_neg c49] at H
                exact absurd H (by simp)
              ·rw [if_neg c48] at H
               have c48b0 : decide (x7_1 < (l0.length : Int)) = false := decide_eq_false c48
               clear c48
               by_cases c64 : x6_1.length < 17592186044416
               ·rw [if_pos c64] at H
                have LMc64 := Aside0.mk c64
                clear c64
                obtain ⟨y266, hy266⟩ : ∃ y_ : List Int, y_ = (x6_1 ++ [4]) := ⟨_, rfl⟩
                replace H : (aircheckref36_ops.l0 kj28 l0 l1 t235 y266 x7_1 (wrap64 (x8_1 + 1))) = some r := by first | (rw [hy266]; with_reducible exact H) | (have H2_ := (Option.bind_some _ _).symm.trans H; rw [hy266]; with_reducible exact H2_) | (have H2_ := (Option.bind_some _ _).symm.trans H; with_reducible exact H2_) | with_reducible exact H | (rw [hy266]; exact H) | exact H
                have Ny266 := Aside0.mk hy266
                clear hy266
                have H' := Aside0.mk H
                clear H
                go_wp2_with (first | ((with_reducible refine gate_builtin (b := .append) (xs := #[.tmp 33, .tmp 34]) rfl ?_); (try (refine gate_guard (by rfl) ?_; dsimp only)); at_builtin; refine Kd.R_append (Kd.int .i64) (w0 := w) w.heap.size rfl (.tmp 33) (.tmp 34) 22 3 (.int .i64 0) 8 rfl Try.underlying22 info3 rfl (by decide) (by omega) u6 x6_1 4 [.int .i64 4] (fun _ => True) (fun _ => False) rfl rfl ?aP (fun _ hk => hk.elim) ?aF ?aO ?aB ?aS ?aL ?_; (case aP => exact rfl); (case aB => exact (zW HB.out)); (case aF => exact (fun _ _ => trivial)); (case aO => exact (zR HO_6.out)); (case aS => exact (below_size (zW HB.out))); (case aL => have := LMc64.out; omega); intro v267 w65 ho hb hg hat; rw [← Ny266.out] at ho; have n0_ := Aside0.mk (Kd.S_after (ok := (fun _ => True)) (by (with_reducible repeat (first | apply Kd.S_alloc | apply Kd.S_drewN | apply Kd.S_drew)); exact Kd.S_mono HO_5.out (fun _ hk => ⟨trivial, hk⟩)) hg hat); have n1_ := Aside0.mk (hb); have n2_ := Aside0.mk (ho); clear HO_5; clear HB; clear HO_6; have HO_5 := n0_; have HB := n1_; have HO268 := n2_; clear n0_ n1_ n2_; clear ho hb hg hat))
                repeat (go_quiet (first | ((with_reducible refine gate_builtin (b := .append) (xs := #[.tmp 33, .tmp 34]) rfl ?_); (try (refine gate_guard (by rfl) ?_; dsimp only)); at_builtin; refine Kd.R_append (Kd.int .i64) (w0 := w) w.heap.size rfl (.tmp 33) (.tmp 34) 22 3 (.int .i64 0) 8 rfl Try.underlying22 info3 rfl (by decide) (by omega) u6 x6_1 4 [.int .i64 4] (fun _ => True) (fun _ => False) rfl rfl ?aP (fun _ hk => hk.elim) ?aF ?aO ?aB ?aS ?aL ?_; (case aP => exact rfl); (case aB => exact (zW HB.out)); (case aF => exact (fun _ _ => trivial)); (case aO => exact (zR HO_6.out)); (case aS => exact (below_size (zW HB.out))); (case aL => have := LMc64.out; omega); intro v267 w65 ho hb hg hat; rw [← Ny266.out] at ho; have n0_ := Aside0.mk (Kd.S_after (ok := (fun _ => True)) (by (with_reducible repeat (first | apply Kd.S_alloc | apply Kd.S_drewN | apply Kd.S_drew)); exact Kd.S_mono HO_5.out (fun _ hk => ⟨trivial, hk⟩)) hg hat); have n1_ := Aside0.mk (hb); have n2_ := Aside0.mk (ho); clear HO_5; clear HB; clear HO_6; have HO_5 := n0_; have HB := n1_; have HO268 := n2_; clear n0_ n1_ n2_; clear ho hb hg hat)); try go_wp2_with (first | ((with_reducible refine gate_builtin (b := .append) (xs := #[.tmp 33, .tmp 34]) rfl ?_); (try (refine gate_guard (by rfl) ?_; dsimp only)); at_builtin; refine Kd.R_append (Kd.int .i64) (w0 := w) w.heap.size rfl (.tmp 33) (.tmp 34) 22 3 (.int .i64 0) 8 rfl Try.underlying22 info3 rfl (by decide) (by omega) u6 x6_1 4 [.int .i64 4] (fun _ => True) (fun _ => False) rfl rfl ?aP (fun _ hk => hk.elim) ?aF ?aO ?aB ?aS ?aL ?_; (case aP => exact rfl); (case aB => exact (zW HB.out)); (case aF => exact (fun _ _ => trivial)); (case aO => exact (zR HO_6.out)); (case aS => exact (below_size (zW HB.out))); (case aL => have := LMc64.out; omega); intro v267 w65 ho hb hg hat; rw [← Ny266.out] at ho; have n0_ := Aside0.mk (Kd.S_after (ok := (fun _ => True)) (by (with_reducible repeat (first | apply Kd.S_alloc | apply Kd.S_drewN | apply Kd.S_drew)); exact Kd.S_mono HO_5.out (fun _ hk => ⟨trivial, hk⟩)) hg hat); have n1_ := Aside0.mk (hb); have n2_ := Aside0.mk (ho); clear HO_5; clear HB; clear HO_6; have HO_5 := n0_; have HB := n1_; have HO268 := n2_; clear n0_ n1_ n2_; clear ho hb hg hat)))
                go_roundg kj28
                case measure => have := HK1.out; have := HJ4.out; have := HJ7.out; have := HJ9.out; have := HJ28.out; omega
                case rel => exact ⟨(y266), (x7_1), (wrap64 (x8_1 + 1)), zE, zE, H', ⟨by have := HK1.out; have := HJ4.out; have := HJ7.out; have := HJ9.out; have := HJ28.out; omega⟩, ⟨by (with_reducible repeat (first | apply Kd.S_alloc | apply Kd.S_drewN | apply Kd.S_drew)); exact Kd.S_mono HO_5.out (fun _ hk => hk.2)⟩, ⟨zR HO268.out⟩, ⟨zW HB.out⟩⟩
               ·rw [if_neg c64] at H
                exact absurd H (by simp)
     ·replace c7 := Bool.eq_false_iff.mpr c7
      subst c7
      rw [if_neg (show ¬ (false = true) by decide)] at H
      obtain rfl := Option.some.inj H
      go_wp2
      repeat (go_quiet (fail); try go_wp2)
      go_ret
      exact ⟨_, by first | rfl | (simp [errW_none, errW_some] <;> rfl) | (simp [*, errW_none, errW_some] <;> rfl), zR HO_6.out, zW HB.out⟩

end Go.Proofs.Ytgaepndbfpfniaa.PFR
