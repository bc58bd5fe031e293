-- PRINTED by print.py (a twelfth state) out of the translation. Not trusted: Lean checks it.
import Derived.Test.YtglcdgalimgkeaaDoorSteps
import Derived.Test.YtglcdgalimgkeaaDoorPJBx0
namespace Go.Proofs.YtglcdgalimgkeaaDoor.PJB
open Go.RowKit Go.Proofs.YtglcdgalimgkeaaDoorW.PrintWords Go.Proofs.YtglcdgalimgkeaaDoorW.PrintLast Go.Proofs.YtglcdgalimgkeaaDoorW.PrintMore
attribute [local go_sem] max2_int min2_int max_two min_two max_three min_three max_four min_four   -- for this text's walks alone
set_option linter.unusedVariables false
set_option linter.unusedSimpArgs false

/-! ### aircheckref15_Valid: function 56 -/
def aircheckref15_Valid.l0 : Nat → List (S74) → Int → Int → Option (Bool)
 | 0, _, _, _ => none
 | k + 1, x0, x3, x4 => if x4 < (x0.length : Int) then (if 0 ≤ x4 then (if ((rd_T74 x0 x4).f0) = x3 then (if ((rd_T74 x0 x4).f1) ≤ x3 then (some false) else (if ((rd_T74 x0 x4).f1) > 10000000 then (some false) else (if ((rd_T74 x0 x4).f2) < 0 then (some false) else (if ((rd_T74 x0 x4).f2) > 2999 then (some false) else (if x4 > 0 then (if 0 ≤ (wrap64 (x4 - 1)) then (if (wrap64 (x4 - 1)) < (x0.length : Int) then (if ((rd_T74 x0 x4).f2) = ((rd_T74 x0 (wrap64 (x4 - 1))).f2) then (some false) else (aircheckref15_Valid.l0 k x0 ((rd_T74 x0 x4).f1) (wrap64 (x4 + 1)))) else (none)) else (none)) else (aircheckref15_Valid.l0 k x0 ((rd_T74 x0 x4).f1) (wrap64 (x4 + 1)))))))) else (some false)) else (none)) else (some true)
def aircheckref15_Valid.f (k : Nat) (l0 : List (S74)) : Option (Bool) := if (l0.length : Int) > 200 then (some false) else (aircheckref15_Valid.l0 k l0 0 0)
set_option maxHeartbeats 8000000 in
set_option maxRecDepth 100000 in
theorem aircheckref15_Valid.calls (k : Nat) (A0 : Option Addr) (c0 : Nat) (l0 : List (S74)) (r : Bool) (w : World) (hr0 : Kd.C k74 w A0 l0.length l0) (hc0 : l0.length ≤ c0) (h : aircheckref15_Valid.f k l0 = some r) :
  Calls Tryd.prog 56 #[.slice A0 l0.length c0] w fun e w' => e = .returned (.bool r) ∧ Drawn0 w w' := by
 have HR0 := Aside0.mk hr0
 have HC0 := Aside0.mk hc0
 clear hr0 hc0
 have H : (if (l0.length : Int) > 200 then (some false) else (aircheckref15_Valid.l0 k l0 0 0)) = some r := h
 clear h
 by_cases c2 : (l0.length : Int) > 200
 ·rw [if_pos c2] at H
  have c2b0 : decide (200 < (l0.length : Int)) = true := decide_eq_true c2
  have c2b1 : decide (200 < l0.length) = true := decide_eq_true (by omega)
  clear c2
  obtain rfl := Option.some.inj H
  go_enter Tryd.func56, Tryd.ntmps56
  go_wp2
  repeat (go_quiet (fail); try go_wp2)
  go_ret
  exact ⟨by first | rfl | (simp; done) | (simp [*]; done), by repeat (first | exact Drawn0.refl _ | apply Drawn0.step)⟩
 ·rw [if_neg c2] at H
  have c2b0 : decide (200 < (l0.length : Int)) = false := decide_eq_false c2
  have c2b1 : decide (200 < l0.length) = false := decide_eq_false (by omega)
  clear c2
  have H' := Aside0.mk H
  clear H
  go_enter Tryd.func56, Tryd.ntmps56
  go_wp2
  repeat (go_quiet (fail); try go_wp2)
  go_loopg [3, 4] k (fun kq v3 v4 w' => ∃ (x3_1 : Int) (x4_1 : Int), v3 = .int .i64 x3_1 ∧ v4 = .int .i64 x4_1 ∧ Aside0 (aircheckref15_Valid.l0 kq l0 x3_1 x4_1 = some r) ∧ Aside0 (kq ≤ k) ∧ Drawn0 w w')
  case atStart => exact ⟨(0), (0), zE, zE, H', ⟨Nat.le_refl _⟩, by repeat (first | exact Drawn0.refl _ | apply Drawn0.step)⟩
  case round =>
   clear H'
   (try clear c2); (try clear c2b0); (try clear c2b1); (try clear p2)
   obtain ⟨x3_1, x4_1, rfl, rfl, HA, HK1, ⟨m1, rfl⟩⟩ := hrel
   cases gk with
   | zero => exact absurd HA.out (by simp [aircheckref15_Valid.l0])
   | succ k1 =>
    have H := HA.out
    clear HA
    simp only [aircheckref15_Valid.l0] at H
    by_cases c3 : x4_1 < (l0.length : Int)
    ·rw [if_pos c3] at H
     have c3b0 : decide (x4_1 < (l0.length : Int)) = true := decide_eq_true c3
     clear c3
     by_cases c4 : 0 ≤ x4_1
     ·rw [if_pos c4] at H
      have c4b0 : decide (0 ≤ x4_1) = true := decide_eq_true c4
      clear c4
      by_cases c5 : ((rd_T74 l0 x4_1).f0) = x3_1
      ·rw [if_pos c5] at H
       have c5b0 : (((rd_T74 l0 x4_1).f0) == x3_1) = true := beq_iff_eq.mpr c5
       have c5b1 : (((rd_T74 l0 x4_1).f0) != x3_1) = false := bne_eq_false_iff_eq.mpr c5
       clear c5
       by_cases c6 : ((rd_T74 l0 x4_1).f1) ≤ x3_1
       ·rw [if_pos c6] at H
        have c6b0 : decide (((rd_T74 l0 x4_1).f1) ≤ x3_1) = true := decide_eq_true c6
        clear c6
        obtain rfl := Option.some.inj H
        have p253 : 0 ≤ (x4_1 : Int) := of_decide_eq_true zA
        have q253 : x4_1 < (l0.length : Int) := of_decide_eq_true zA
        obtain ⟨ad253, e253, hx253_0, hx253_1, hx253_2⟩ := at_T74 HR0.out x4_1 p253 q253
        cases e253
        replace p253 := eq_true p253
        replace q253 := eq_true q253
        have p254 : 0 ≤ (x4_1 : Int) := of_decide_eq_true zA
        have q254 : x4_1 < (l0.length : Int) := of_decide_eq_true zA
        obtain ⟨ad254, e254, hx254_0, hx254_1, hx254_2⟩ := at_T74 HR0.out x4_1 p254 q254
        obtain rfl : ad253 = ad254 := (by injection e254)
        replace p254 := eq_true p254
        replace q254 := eq_true q254
        go_wp2
        repeat (go_quiet (fail); try go_wp2)
        go_ret
        exact ⟨by first | rfl | (simp; done) | (simp [*]; done), by repeat (first | exact Drawn0.refl _ | apply Drawn0.step)⟩
       ·rw [if_neg c6] at H
        have c6b0 : decide (((rd_T74 l0 x4_1).f1) ≤ x3_1) = false := decide_eq_false c6
        clear c6
        by_cases c7 : ((rd_T74 l0 x4_1).f1) > 10000000
        ·rw [if_pos c7] at H
         have c7b0 : decide (10000000 < ((rd_T74 l0 x4_1).f1)) = true := decide_eq_true c7
         clear c7
         obtain rfl := Option.some.inj H
         have p253 : 0 ≤ (x4_1 : Int) := of_decide_eq_true zA
         have q253 : x4_1 < (l0.length : Int) := of_decide_eq_true zA
         obtain ⟨ad253, e253, hx253_0, hx253_1, hx253_2⟩ := at_T74 HR0.out x4_1 p253 q253
         cases e253
         replace p253 := eq_true p253
         replace q253 := eq_true q253
         have p254 : 0 ≤ (x4_1 : Int) := of_decide_eq_true zA
         have q254 : x4_1 < (l0.length : Int) := of_decide_eq_true zA
         obtain ⟨ad254, e254, hx254_0, hx254_1, hx254_2⟩ := at_T74 HR0.out x4_1 p254 q254
         obtain rfl : ad253 = ad254 := (by injection e254)
         replace p254 := eq_true p254
         replace q254 := eq_true q254
         have p255 : 0 ≤ (x4_1 : Int) := of_decide_eq_true zA
         have q255 : x4_1 < (l0.length : Int) := of_decide_eq_true zA
         obtain ⟨ad255, e255, hx255_0, hx255_1, hx255_2⟩ := at_T74 HR0.out x4_1 p255 q255
         obtain rfl : ad253 = ad255 := (by injection e255)
         replace p255 := eq_true p255
         replace q255 := eq_true q255
         go_wp2
         repeat (go_quiet (fail); try go_wp2)
         go_ret
         exact ⟨by first | rfl | (simp; done) | (simp [*]; done), by repeat (first | exact Drawn0.refl _ | apply Drawn0.step)⟩
        ·rw [if_neg c7] at H
         have c7b0 : decide (10000000 < ((rd_T74 l0 x4_1).f1)) = false := decide_eq_false c7
         clear c7
         by_cases c8 : ((rd_T74 l0 x4_1).f2) < 0
         ·rw [if_pos c8] at H
          have c8b0 : decide (((rd_T74 l0 x4_1).f2) < 0) = true := decide_eq_true c8
          clear c8
          obtain rfl := Option.some.inj H
          have p253 : 0 ≤ (x4_1 : Int) := of_decide_eq_true zA
          have q253 : x4_1 < (l0.length : Int) := of_decide_eq_true zA
          obtain ⟨ad253, e253, hx253_0, hx253_1, hx253_2⟩ := at_T74 HR0.out x4_1 p253 q253
          cases e253
          replace p253 := eq_true p253
          replace q253 := eq_true q253
          have p254 : 0 ≤ (x4_1 : Int) := of_decide_eq_true zA
          have q254 : x4_1 < (l0.length : Int) := of_decide_eq_true zA
          obtain ⟨ad254, e254, hx254_0, hx254_1, hx254_2⟩ := at_T74 HR0.out x4_1 p254 q254
          obtain rfl : ad253 = ad254 := (by injection e254)
          replace p254 := eq_true p254
          replace q254 := eq_true q254
          have p255 : 0 ≤ (x4_1 : Int) := of_decide_eq_true zA
          have q255 : x4_1 < (l0.length : Int) := of_decide_eq_true zA
          obtain ⟨ad255, e255, hx255_0, hx255_1, hx255_2⟩ := at_T74 HR0.out x4_1 p255 q255
          obtain rfl : ad253 = ad255 := (by injection e255)
          replace p255 := eq_true p255
          replace q255 := eq_true q255
          have p256 : 0 ≤ (x4_1 : Int) := of_decide_eq_true zA
          have q256 : x4_1 < (l0.length : Int) := of_decide_eq_true zA
          obtain ⟨ad256, e256, hx256_0, hx256_1, hx256_2⟩ := at_T74 HR0.out x4_1 p256 q256
          obtain rfl : ad253 = ad256 := (by injection e256)
          replace p256 := eq_true p256
          replace q256 := eq_true q256
          go_wp2
          repeat (go_quiet (fail); try go_wp2)
          go_ret
          exact ⟨by first | rfl | (simp; done) | (simp [*]; done), by repeat (first | exact Drawn0.refl _ | apply Drawn0.step)⟩
         ·rw [if_neg c8] at H
          have c8b0 : decide (((rd_T74 l0 x4_1).f2) < 0) = false := decide_eq_false c8
          clear c8
          by_cases c9 : ((rd_T74 l0 x4_1).f2) > 2999
          ·rw [if_pos c9] at H
           have c9b0 : decide (2999 < ((rd_T74 l0 x4_1).f2)) = true := decide_eq_true c9
           clear c9
           obtain rfl := Option.some.inj H
           have p253 : 0 ≤ (x4_1 : Int) := of_decide_eq_true zA
           have q253 : x4_1 < (l0.length : Int) := of_decide_eq_true zA
           obtain ⟨ad253, e253, hx253_0, hx253_1, hx253_2⟩ := at_T74 HR0.out x4_1 p253 q253
           cases e253
           replace p253 := eq_true p253
           replace q253 := eq_true q253
           have p254 : 0 ≤ (x4_1 : Int) := of_decide_eq_true zA
           have q254 : x4_1 < (l0.length : Int) := of_decide_eq_true zA
           obtain ⟨ad254, e254, hx254_0, hx254_1, hx254_2⟩ := at_T74 HR0.out x4_1 p254 q254
           obtain rfl : ad253 = ad254 := (by injection e254)
           replace p254 := eq_true p254
           replace q254 := eq_true q254
           have p255 : 0 ≤ (x4_1 : Int) := of_decide_eq_true zA
           have q255 : x4_1 < (l0.length : Int) := of_decide_eq_true zA
           obtain ⟨ad255, e255, hx255_0, hx255_1, hx255_2⟩ := at_T74 HR0.out x4_1 p255 q255
           obtain rfl : ad253 = ad255 := (by injection e255)
           replace p255 := eq_true p255
           replace q255 := eq_true q255
           have p256 : 0 ≤ (x4_1 : Int) := of_decide_eq_true zA
           have q256 : x4_1 < (l0.length : Int) := of_decide_eq_true zA
           obtain ⟨ad256, e256, hx256_0, hx256_1, hx256_2⟩ := at_T74 HR0.out x4_1 p256 q256
           obtain rfl : ad253 = ad256 := (by injection e256)
           replace p256 := eq_true p256
           replace q256 := eq_true q256
           have p257 : 0 ≤ (x4_1 : Int) := of_decide_eq_true zA
           have q257 : x4_1 < (l0.length : Int) := of_decide_eq_true zA
           obtain ⟨ad257, e257, hx257_0, hx257_1, hx257_2⟩ := at_T74 HR0.out x4_1 p257 q257
           obtain rfl : ad253 = ad257 := (by injection e257)
           replace p257 := eq_true p257
           replace q257 := eq_true q257
           go_wp2
           repeat (go_quiet (fail); try go_wp2)
           go_ret
           exact ⟨by first | rfl | (simp; done) | (simp [*]; done), by repeat (first | exact Drawn0.refl _ | apply Drawn0.step)⟩
          ·rw [if_neg c9] at H
           have c9b0 : decide (2999 < ((rd_T74 l0 x4_1).f2)) = false := decide_eq_false c9
           clear c9
           by_cases c10 : x4_1 > 0
           ·rw [if_pos c10] at H
            have c10b0 : decide (0 < x4_1) = true := decide_eq_true c10
            clear c10
            obtain ⟨ji11, hji11⟩ : ∃ j_ : Int, (wrap64 (x4_1 - 1)) = j_ := ⟨_, rfl⟩
            replace H : (if 0 ≤ (ji11) then (if (ji11) < (l0.length : Int) then (if ((rd_T74 l0 x4_1).f2) = ((rd_T74 l0 (ji11)).f2) then (some false) else (aircheckref15_Valid.l0 k1 l0 ((rd_T74 l0 x4_1).f1) (wrap64 (x4_1 + 1)))) else (none)) else (none)) = some r := by first | (rw [hji11] at H; exact H) | (simp only [hji11] at H ⊢; exact H)
            have hji11w : (IntKind.i64.wrap (x4_1 - 1)) = ji11 := (i64_w _).trans hji11
            by_cases c12 : 0 ≤ (ji11)
            ·rw [if_pos c12] at H
             have c12b0 : decide (0 ≤ (ji11)) = true := decide_eq_true c12
             clear c12
             by_cases c13 : (ji11) < (l0.length : Int)
             ·rw [if_pos c13] at H
              have c13b0 : decide ((ji11) < (l0.length : Int)) = true := decide_eq_true c13
              clear c13
              by_cases c14 : ((rd_T74 l0 x4_1).f2) = ((rd_T74 l0 (ji11)).f2)
              ·rw [if_pos c14] at H
               have c14b0 : (((rd_T74 l0 x4_1).f2) == ((rd_T74 l0 (ji11)).f2)) = true := beq_iff_eq.mpr c14
               have c14b1 : (((rd_T74 l0 x4_1).f2) != ((rd_T74 l0 (ji11)).f2)) = false := bne_eq_false_iff_eq.mpr c14
               clear c14
               obtain rfl := Option.some.inj H
               have p253 : 0 ≤ (x4_1 : Int) := of_decide_eq_true zA
               have q253 : x4_1 < (l0.length : Int) := of_decide_eq_true zA
               obtain ⟨ad253, e253, hx253_0, hx253_1, hx253_2⟩ := at_T74 HR0.out x4_1 p253 q253
               cases e253
               replace p253 := eq_true p253
               replace q253 := eq_true q253
               have p254 : 0 ≤ (x4_1 : Int) := of_decide_eq_true zA
               have q254 : x4_1 < (l0.length : Int) := of_decide_eq_true zA
               obtain ⟨ad254, e254, hx254_0, hx254_1, hx254_2⟩ := at_T74 HR0.out x4_1 p254 q254
               obtain rfl : ad253 = ad254 := (by injection e254)
               replace p254 := eq_true p254
               replace q254 := eq_true q254
               have p255 : 0 ≤ (x4_1 : Int) := of_decide_eq_true zA
               have q255 : x4_1 < (l0.length : Int) := of_decide_eq_true zA
               obtain ⟨ad255, e255, hx255_0, hx255_1, hx255_2⟩ := at_T74 HR0.out x4_1 p255 q255
               obtain rfl : ad253 = ad255 := (by injection e255)
               replace p255 := eq_true p255
               replace q255 := eq_true q255
               have p256 : 0 ≤ (x4_1 : Int) := of_decide_eq_true zA
               have q256 : x4_1 < (l0.length : Int) := of_decide_eq_true zA
               obtain ⟨ad256, e256, hx256_0, hx256_1, hx256_2⟩ := at_T74 HR0.out x4_1 p256 q256
               obtain rfl : ad253 = ad256 := (by injection e256)
               replace p256 := eq_true p256
               replace q256 := eq_true q256
               have p257 : 0 ≤ (x4_1 : Int) := of_decide_eq_true zA
               have q257 : x4_1 < (l0.length : Int) := of_decide_eq_true zA
               obtain ⟨ad257, e257, hx257_0, hx257_1, hx257_2⟩ := at_T74 HR0.out x4_1 p257 q257
               obtain rfl : ad253 = ad257 := (by injection e257)
               replace p257 := eq_true p257
               replace q257 := eq_true q257
               have p258 : 0 ≤ (x4_1 : Int) := of_decide_eq_true zA
               have q258 : x4_1 < (l0.length : Int) := of_decide_eq_true zA
               obtain ⟨ad258, e258, hx258_0, hx258_1, hx258_2⟩ := at_T74 HR0.out x4_1 p258 q258
               obtain rfl : ad253 = ad258 := (by injection e258)
               replace p258 := eq_true p258
               replace q258 := eq_true q258
               have p259 : 0 ≤ ((ji11) : Int) := of_decide_eq_true zA
               have q259 : (ji11) < (l0.length : Int) := of_decide_eq_true zA
               obtain ⟨ad259, e259, hx259_0, hx259_1, hx259_2⟩ := at_T74 HR0.out (ji11) p259 q259
               obtain rfl : ad253 = ad259 := (by injection e259)
               replace p259 := eq_true p259
               replace q259 := eq_true q259
               go_wp2
               repeat (go_quiet (fail); try go_wp2)
               go_ret
               exact ⟨by first | rfl | (simp; done) | (simp only [← hji11] <;> (first | rfl | simp)) | (simp [*]; done), by repeat (first | exact Drawn0.refl _ | apply Drawn0.step)⟩
              ·rw [if_neg c14] at H
               have c14b0 : (((rd_T74 l0 x4_1).f2) == ((rd_T74 l0 (ji11)).f2)) = false := beq_eq_false_iff_ne.mpr c14
               have c14b1 : (((rd_T74 l0 x4_1).f2) != ((rd_T74 l0 (ji11)).f2)) = true := bne_iff_ne.mpr c14
               have H' := Aside0.mk H
               clear H
               have p253 : 0 ≤ (x4_1 : Int) := of_decide_eq_true zA
               have q253 : x4_1 < (l0.length : Int) := of_decide_eq_true zA
               obtain ⟨ad253, e253, hx253_0, hx253_1, hx253_2⟩ := at_T74 HR0.out x4_1 p253 q253
               cases e253
               replace p253 := eq_true p253
               replace q253 := eq_true q253
               have p254 : 0 ≤ (x4_1 : Int) := of_decide_eq_true zA
               have q254 : x4_1 < (l0.length : Int) := of_decide_eq_true zA
               obtain ⟨ad254, e254, hx254_0, hx254_1, hx254_2⟩ := at_T74 HR0.out x4_1 p254 q254
               obtain rfl : ad253 = ad254 := (by injection e254)
               replace p254 := eq_true p254
               replace q254 := eq_true q254
               have p255 : 0 ≤ (x4_1 : Int) := of_decide_eq_true zA
               have q255 : x4_1 < (l0.length : Int) := of_decide_eq_true zA
               obtain ⟨ad255, e255, hx255_0, hx255_1, hx255_2⟩ := at_T74 HR0.out x4_1 p255 q255
               obtain rfl : ad253 = ad255 := (by injection e255)
               replace p255 := eq_true p255
               replace q255 := eq_true q255
               have p256 : 0 ≤ (x4_1 : Int) := of_decide_eq_true zA
               have q256 : x4_1 < (l0.length : Int) := of_decide_eq_true zA
               obtain ⟨ad256, e256, hx256_0, hx256_1, hx256_2⟩ := at_T74 HR0.out x4_1 p256 q256
               obtain rfl : ad253 = ad256 := (by injection e256)
               replace p256 := eq_true p256
               replace q256 := eq_true q256
               have p257 : 0 ≤ (x4_1 : Int) := of_decide_eq_true zA
               have q257 : x4_1 < (l0.length : Int) := of_decide_eq_true zA
               obtain ⟨ad257, e257, hx257_0, hx257_1, hx257_2⟩ := at_T74 HR0.out x4_1 p257 q257
               obtain rfl : ad253 = ad257 := (by injection e257)
               replace p257 := eq_true p257
               replace q257 := eq_true q257
               have p258 : 0 ≤ (x4_1 : Int) := of_decide_eq_true zA
               have q258 : x4_1 < (l0.length : Int) := of_decide_eq_true zA
               obtain ⟨ad258, e258, hx258_0, hx258_1, hx258_2⟩ := at_T74 HR0.out x4_1 p258 q258
               obtain rfl : ad253 = ad258 := (by injection e258)
               replace p258 := eq_true p258
               replace q258 := eq_true q258
               have p259 : 0 ≤ ((ji11) : Int) := of_decide_eq_true zA
               have q259 : (ji11) < (l0.length : Int) := of_decide_eq_true zA
               obtain ⟨ad259, e259, hx259_0, hx259_1, hx259_2⟩ := at_T74 HR0.out (ji11) p259 q259
               obtain rfl : ad253 = ad259 := (by injection e259)
               replace p259 := eq_true p259
               replace q259 := eq_true q259
               have p260 : 0 ≤ (x4_1 : Int) := of_decide_eq_true zA
               have q260 : x4_1 < (l0.length : Int) := of_decide_eq_true zA
               obtain ⟨ad260, e260, hx260_0, hx260_1, hx260_2⟩ := at_T74 HR0.out x4_1 p260 q260
               obtain rfl : ad253 = ad260 := (by injection e260)
               replace p260 := eq_true p260
               replace q260 := eq_true q260
               go_wp2
               repeat (go_quiet (fail); try go_wp2)
               go_roundg k1
               case measure => have := HK1.out; omega
               case rel => exact ⟨((rd_T74 l0 x4_1).f1), (wrap64 (x4_1 + 1)), zE, zE, H', ⟨by have := HK1.out; omega⟩, by repeat (first | exact Drawn0.refl _ | apply Drawn0.step)⟩
             ·rw [if_neg c13] at H
              exact absurd H (by simp)
            ·rw [if_neg c12] at H
             exact absurd H (by simp)
           ·rw [if_neg c10] at H
            have c10b0 : decide (0 < x4_1) = false := decide_eq_false c10
            clear c10
            have H' := Aside0.mk H
            clear H
            have p253 : 0 ≤ (x4_1 : Int) := of_decide_eq_true zA
            have q253 : x4_1 < (l0.length : Int) := of_decide_eq_true zA
            obtain ⟨ad253, e253, hx253_0, hx253_1, hx253_2⟩ := at_T74 HR0.out x4_1 p253 q253
            cases e253
            replace p253 := eq_true p253
            replace q253 := eq_true q253
            have p254 : 0 ≤ (x4_1 : Int) := of_decide_eq_true zA
            have q254 : x4_1 < (l0.length : Int) := of_decide_eq_true zA
            obtain ⟨ad254, e254, hx254_0, hx254_1, hx254_2⟩ := at_T74 HR0.out x4_1 p254 q254
            obtain rfl : ad253 = ad254 := (by injection e254)
            replace p254 := eq_true p254
            replace q254 := eq_true q254
            have p255 : 0 ≤ (x4_1 : Int) := of_decide_eq_true zA
            have q255 : x4_1 < (l0.length : Int) := of_decide_eq_true zA
            obtain ⟨ad255, e255, hx255_0, hx255_1, hx255_2⟩ := at_T74 HR0.out x4_1 p255 q255
            obtain rfl : ad253 = ad255 := (by injection e255)
            replace p255 := eq_true p255
            replace q255 := eq_true q255
            have p256 : 0 ≤ (x4_1 : Int) := of_decide_eq_true zA
            have q256 : x4_1 < (l0.length : Int) := of_decide_eq_true zA
            obtain ⟨ad256, e256, hx256_0, hx256_1, hx256_2⟩ := at_T74 HR0.out x4_1 p256 q256
            obtain rfl : ad253 = ad256 := (by injection e256)
            replace p256 := eq_true p256
            replace q256 := eq_true q256
            have p257 : 0 ≤ (x4_1 : Int) := of_decide_eq_true zA
            have q257 : x4_1 < (l0.length : Int) := of_decide_eq_true zA
            obtain ⟨ad257, e257, hx257_0, hx257_1, hx257_2⟩ := at_T74 HR0.out x4_1 p257 q257
            obtain rfl : ad253 = ad257 := (by injection e257)
            replace p257 := eq_true p257
            replace q257 := eq_true q257
            have p261 : 0 ≤ (x4_1 : Int) := of_decide_eq_true zA
            have q261 : x4_1 < (l0.length : Int) := of_decide_eq_true zA
            obtain ⟨ad261, e261, hx261_0, hx261_1, hx261_2⟩ := at_T74 HR0.out x4_1 p261 q261
            obtain rfl : ad253 = ad261 := (by injection e261)
            replace p261 := eq_true p261
            replace q261 := eq_true q261
            go_wp2
            repeat (go_quiet (fail); try go_wp2)
            go_roundg k1
            case measure => have := HK1.out; omega
            case rel => exact ⟨((rd_T74 l0 x4_1).f1), (wrap64 (x4_1 + 1)), zE, zE, H', ⟨by have := HK1.out; omega⟩, by repeat (first | exact Drawn0.refl _ | apply Drawn0.step)⟩
      ·rw [if_neg c5] at H
       have c5b0 : (((rd_T74 l0 x4_1).f0) == x3_1) = false := beq_eq_false_iff_ne.mpr c5
       have c5b1 : (((rd_T74 l0 x4_1).f0) != x3_1) = true := bne_iff_ne.mpr c5
       obtain rfl := Option.some.inj H
       have p253 : 0 ≤ (x4_1 : Int) := of_decide_eq_true zA
       have q253 : x4_1 < (l0.length : Int) := of_decide_eq_true zA
       obtain ⟨ad253, e253, hx253_0, hx253_1, hx253_2⟩ := at_T74 HR0.out x4_1 p253 q253
       cases e253
       replace p253 := eq_true p253
       replace q253 := eq_true q253
       go_wp2
       repeat (go_quiet (fail); try go_wp2)
       go_ret
       exact ⟨by first | rfl | (simp; done) | (simp [*]; done), by repeat (first | exact Drawn0.refl _ | apply Drawn0.step)⟩
     ·rw [if_neg c4] at H
      exact absurd H (by simp)
    ·rw [if_neg c3] at H
     have c3b0 : decide (x4_1 < (l0.length : Int)) = false := decide_eq_false c3
     clear c3
     obtain rfl := Option.some.inj H
     go_wp2
     repeat (go_quiet (fail); try go_wp2)
     go_ret
     exact ⟨by first | rfl | (simp; done) | (simp [*]; done), by repeat (first | exact Drawn0.refl _ | apply Drawn0.step)⟩

/-! ### aircheckref15_add: function 89 -/
def aircheckref15_add.f (l0 : List (S74)) (a1_0 : Int) (a1_1 : Int) (a1_2 : Int) : Option ((List (S74))) := if a1_0 ≥ a1_1 then (some l0) else (if (l0.length : Int) > 0 then (if 0 ≤ (wrap64 ((l0.length : Int) - 1)) then (if (wrap64 ((l0.length : Int) - 1)) < (l0.length : Int) then (if ((rd_T74 l0 (wrap64 ((l0.length : Int) - 1))).f2) = a1_2 then (some (l0.set ((wrap64 ((l0.length : Int) - 1)) : Int).toNat (⟨(rd_T74 l0 (wrap64 ((l0.length : Int) - 1))).f0, a1_1, (rd_T74 l0 (wrap64 ((l0.length : Int) - 1))).f2⟩ : S74))) else (if l0.length < 5864062014805 then (some (l0 ++ [(⟨a1_0, a1_1, a1_2⟩ : S74)])) else (none))) else (none)) else (none)) else (if l0.length < 5864062014805 then (some (l0 ++ [(⟨a1_0, a1_1, a1_2⟩ : S74)])) else (none)))
set_option maxHeartbeats 8000000 in
set_option maxRecDepth 100000 in
theorem aircheckref15_add.calls (P0_ : Nat → Prop) (u9000_ : Value) (l0 : List (S74)) (a1_0 : Int) (a1_1 : Int) (a1_2 : Int) (r : List (S74)) (w0 w : World) (hB : Below w0.heap.size w0 w) (ho0 : Kd.R k74 74 w w0.heap.size P0_ u9000_ l0) (h : aircheckref15_add.f l0 a1_0 a1_1 a1_2 = some r) :
  Calls Tryd.prog 89 #[u9000_, .agg #[.int .i64 a1_0, .int .i64 a1_1, .int .i64 a1_2]] w fun e w' => ∃ v0_ : Value, e = .returned (v0_) ∧ Kd.R k74 74 w' w0.heap.size (fun k_ => (P0_ k_ ∨ w.heap.size ≤ k_)) v0_ r ∧ Below w0.heap.size w0 w' ∧ Kept w w' (fun k_ => P0_ k_) := by
 have hu74 := Tryd.underlying74
 have HO0 := Aside0.mk (show Kd.R k74 74 w w0.heap.size (fun k_ => (P0_ k_ ∨ w.heap.size ≤ k_)) u9000_ l0 from Kd.R_mono ho0 (fun k_ hk => (.inl hk)))
 have HK := Aside0.mk (Kept.refl w (fun k_ => P0_ k_))
 have HW0 := Aside0.mk hB.size
 have HB := Aside0.mk hB
 clear hB
 have H : (if a1_0 ≥ a1_1 then (some l0) else (if (l0.length : Int) > 0 then (if 0 ≤ (wrap64 ((l0.length : Int) - 1)) then (if (wrap64 ((l0.length : Int) - 1)) < (l0.length : Int) then (if ((rd_T74 l0 (wrap64 ((l0.length : Int) - 1))).f2) = a1_2 then (some (l0.set ((wrap64 ((l0.length : Int) - 1)) : Int).toNat (⟨(rd_T74 l0 (wrap64 ((l0.length : Int) - 1))).f0, a1_1, (rd_T74 l0 (wrap64 ((l0.length : Int) - 1))).f2⟩ : S74))) else (if l0.length < 5864062014805 then (some (l0 ++ [(⟨a1_0, a1_1, a1_2⟩ : S74)])) else (none))) else (none)) else (none)) else (if l0.length < 5864062014805 then (some (l0 ++ [(⟨a1_0, a1_1, a1_2⟩ : S74)])) else (none)))) = some r := h
 clear h
 by_cases c3 : a1_0 ≥ a1_1
 ·rw [if_pos c3] at H
  have c3b0 : decide (a1_1 ≤ a1_0) = true := decide_eq_true c3
  clear c3
  obtain rfl := Option.some.inj H
  go_enter Tryd.func89, Tryd.ntmps89
  go_wp2_with (first | ((with_reducible refine gate_dst (N := 3) rfl ?_); (try (refine gate_guard (by rfl) ?_; dsimp only)); refine box_event ?hg (N := 3) ?hd (cs := #[.int .i64 a1_0, .int .i64 a1_1, .int .i64 a1_2]) (t := 74) ?hr ?_; (case hd => rfl); (case hg => rfl); (case hr => first | (go_simp; done) | (go_simp; rfl)); intro gb262 hg w4 hbox hb; have n0_ := Aside0.mk (Kd.R_below (Kd.R_elderB (zR HO0.out) gb262 (Nat.le_of_eq hg.symm)) hb); have n1_ := Aside0.mk (Kept.below (S := (fun k_ => P0_ k_)) (by repeat (first | (with_reducible first | exact HK.out | apply Kept.alloc | apply Kept.drewN | apply Kept.drew) | exact HK.out)) hb); have n2_ := Aside0.mk (below_step (zW HB.out) hb); have n3_ := Aside0.mk (hbox); have n4_ := Aside0.mk ((by rw [hg]; exact (by first | exact HK.out.1 | exact (show Kept w _ (fun k_ => P0_ k_) from by repeat (first | (with_reducible first | exact HK.out | apply Kept.alloc | apply Kept.drewN | apply Kept.drew) | exact HK.out)).1) : w.heap.size ≤ gb262)); have n5_ := Aside0.mk ((by rw [hg]; exact (below_size (zW HB.out)) : w0.heap.size ≤ gb262)); clear HO0; clear HK; clear HB; have HO0 := n0_; have HK := n1_; have HB := n2_; have BK262 := n3_; have GW262 := n4_; have GE262 := n5_; clear n0_ n1_ n2_ n3_ n4_ n5_; clear hb hbox hg; have hcz5_0 : w4.cell? ⟨gb262, 0, none⟩ = some (.int .i64 a1_0) := (blk_cell BK262.out 0).trans rfl; have hcz5_1 : w4.cell? ⟨gb262, 1, none⟩ = some (.int .i64 a1_1) := (blk_cell BK262.out 1).trans rfl; have hcz5_2 : w4.cell? ⟨gb262, 2, none⟩ = some (.int .i64 a1_2) := (blk_cell BK262.out 2).trans rfl; have hfz5_0 := blk_frozen BK262.out 0; have hfz5_1 := blk_frozen BK262.out 1; have hfz5_2 := blk_frozen BK262.out 2))
  repeat (go_quiet (first | ((with_reducible refine gate_dst (N := 3) rfl ?_); (try (refine gate_guard (by rfl) ?_; dsimp only)); refine box_event ?hg (N := 3) ?hd (cs := #[.int .i64 a1_0, .int .i64 a1_1, .int .i64 a1_2]) (t := 74) ?hr ?_; (case hd => rfl); (case hg => rfl); (case hr => first | (go_simp; done) | (go_simp; rfl)); intro gb262 hg w4 hbox hb; have n0_ := Aside0.mk (Kd.R_below (Kd.R_elderB (zR HO0.out) gb262 (Nat.le_of_eq hg.symm)) hb); have n1_ := Aside0.mk (Kept.below (S := (fun k_ => P0_ k_)) (by repeat (first | (with_reducible first | exact HK.out | apply Kept.alloc | apply Kept.drewN | apply Kept.drew) | exact HK.out)) hb); have n2_ := Aside0.mk (below_step (zW HB.out) hb); have n3_ := Aside0.mk (hbox); have n4_ := Aside0.mk ((by rw [hg]; exact (by first | exact HK.out.1 | exact (show Kept w _ (fun k_ => P0_ k_) from by repeat (first | (with_reducible first | exact HK.out | apply Kept.alloc | apply Kept.drewN | apply Kept.drew) | exact HK.out)).1) : w.heap.size ≤ gb262)); have n5_ := Aside0.mk ((by rw [hg]; exact (below_size (zW HB.out)) : w0.heap.size ≤ gb262)); clear HO0; clear HK; clear HB; have HO0 := n0_; have HK := n1_; have HB := n2_; have BK262 := n3_; have GW262 := n4_; have GE262 := n5_; clear n0_ n1_ n2_ n3_ n4_ n5_; clear hb hbox hg; have hcz5_0 : w4.cell? ⟨gb262, 0, none⟩ = some (.int .i64 a1_0) := (blk_cell BK262.out 0).trans rfl; have hcz5_1 : w4.cell? ⟨gb262, 1, none⟩ = some (.int .i64 a1_1) := (blk_cell BK262.out 1).trans rfl; have hcz5_2 : w4.cell? ⟨gb262, 2, none⟩ = some (.int .i64 a1_2) := (blk_cell BK262.out 2).trans rfl; have hfz5_0 := blk_frozen BK262.out 0; have hfz5_1 := blk_frozen BK262.out 1; have hfz5_2 := blk_frozen BK262.out 2)); try go_wp2_with (first | ((with_reducible refine gate_dst (N := 3) rfl ?_); (try (refine gate_guard (by rfl) ?_; dsimp only)); refine box_event ?hg (N := 3) ?hd (cs := #[.int .i64 a1_0, .int .i64 a1_1, .int .i64 a1_2]) (t := 74) ?hr ?_; (case hd => rfl); (case hg => rfl); (case hr => first | (go_simp; done) | (go_simp; rfl)); intro gb262 hg w4 hbox hb; have n0_ := Aside0.mk (Kd.R_below (Kd.R_elderB (zR HO0.out) gb262 (Nat.le_of_eq hg.symm)) hb); have n1_ := Aside0.mk (Kept.below (S := (fun k_ => P0_ k_)) (by repeat (first | (with_reducible first | exact HK.out | apply Kept.alloc | apply Kept.drewN | apply Kept.drew) | exact HK.out)) hb); have n2_ := Aside0.mk (below_step (zW HB.out) hb); have n3_ := Aside0.mk (hbox); have n4_ := Aside0.mk ((by rw [hg]; exact (by first | exact HK.out.1 | exact (show Kept w _ (fun k_ => P0_ k_) from by repeat (first | (with_reducible first | exact HK.out | apply Kept.alloc | apply Kept.drewN | apply Kept.drew) | exact HK.out)).1) : w.heap.size ≤ gb262)); have n5_ := Aside0.mk ((by rw [hg]; exact (below_size (zW HB.out)) : w0.heap.size ≤ gb262)); clear HO0; clear HK; clear HB; have HO0 := n0_; have HK := n1_; have HB := n2_; have BK262 := n3_; have GW262 := n4_; have GE262 := n5_; clear n0_ n1_ n2_ n3_ n4_ n5_; clear hb hbox hg; have hcz5_0 : w4.cell? ⟨gb262, 0, none⟩ = some (.int .i64 a1_0) := (blk_cell BK262.out 0).trans rfl; have hcz5_1 : w4.cell? ⟨gb262, 1, none⟩ = some (.int .i64 a1_1) := (blk_cell BK262.out 1).trans rfl; have hcz5_2 : w4.cell? ⟨gb262, 2, none⟩ = some (.int .i64 a1_2) := (blk_cell BK262.out 2).trans rfl; have hfz5_0 := blk_frozen BK262.out 0; have hfz5_1 := blk_frozen BK262.out 1; have hfz5_2 := blk_frozen BK262.out 2)))
  go_ret
  exact ⟨_, by first | rfl | (simp [errW_none, errW_some] <;> rfl) | (simp [*, errW_none, errW_some] <;> rfl), by (with_reducible repeat (first | apply Kd.R_alloc | apply Kd.R_drewN | apply Kd.R_drew)); exact Kd.R_mono HO0.out (fun _ hk => hk.1), zX HB.out GE262.out, by repeat (first | (with_reducible first | exact HK.out | apply Kept.alloc | apply Kept.drewN | apply Kept.drew | refine Kept.setCell ?_ (.inr GW262.out) _) | exact HK.out)⟩
 ·rw [if_neg c3] at H
  have c3b0 : decide (a1_1 ≤ a1_0) = false := decide_eq_false c3
  clear c3
  by_cases c6 : (l0.length : Int) > 0
  ·rw [if_pos c6] at H
   have c6b0 : decide (0 < (l0.length : Int)) = true := decide_eq_true c6
   have c6b1 : decide (0 < l0.length) = true := decide_eq_true (by omega)
   clear c6
   obtain ⟨ji7, hji7⟩ : ∃ j_ : Int, (wrap64 ((l0.length : Int) - 1)) = j_ := ⟨_, rfl⟩
   replace H : (if 0 ≤ (ji7) then (if (ji7) < (l0.length : Int) then (if ((rd_T74 l0 (ji7)).f2) = a1_2 then (some (l0.set ((ji7) : Int).toNat (⟨(rd_T74 l0 (ji7)).f0, a1_1, (rd_T74 l0 (ji7)).f2⟩ : S74))) else (if l0.length < 5864062014805 then (some (l0 ++ [(⟨a1_0, a1_1, a1_2⟩ : S74)])) else (none))) else (none)) else (none)) = some r := by first | (rw [hji7] at H; exact H) | (simp only [hji7] at H ⊢; exact H)
   have hji7w : (IntKind.i64.wrap ((l0.length : Int) - 1)) = ji7 := (i64_w _).trans hji7
   by_cases c8 : 0 ≤ (ji7)
   ·rw [if_pos c8] at H
    have c8b0 : decide (0 ≤ (ji7)) = true := decide_eq_true c8
    clear c8
    by_cases c9 : (ji7) < (l0.length : Int)
    ·rw [if_pos c9] at H
     have c9b0 : decide ((ji7) < (l0.length : Int)) = true := decide_eq_true c9
     clear c9
     by_cases c10 : ((rd_T74 l0 (ji7)).f2) = a1_2
     ·rw [if_pos c10] at H
      have c10b0 : (((rd_T74 l0 (ji7)).f2) == a1_2) = true := beq_iff_eq.mpr c10
      have c10b1 : (((rd_T74 l0 (ji7)).f2) != a1_2) = false := bne_eq_false_iff_eq.mpr c10
      clear c10
      obtain ⟨y264, hy264⟩ : ∃ y_ : List (S74), y_ = (l0.set ((ji7) : Int).toNat (⟨(rd_T74 l0 (ji7)).f0, a1_1, (rd_T74 l0 (ji7)).f2⟩ : S74)) := ⟨_, rfl⟩
      replace H : (some y264) = some r := by first | (rw [hy264]; with_reducible exact H) | (have H2_ := (Option.bind_some _ _).symm.trans H; rw [hy264]; with_reducible exact H2_) | (have H2_ := (Option.bind_some _ _).symm.trans H; with_reducible exact H2_) | with_reducible exact H | (rw [hy264]; exact H) | exact H
      have Ny264 := Aside0.mk hy264
      clear hy264
      obtain rfl := Option.some.inj H
      go_enter Tryd.func89, Tryd.ntmps89
      go_wp2_with (first | ((with_reducible refine gate_dst (N := 3) rfl ?_); (try (refine gate_guard (by rfl) ?_; dsimp only)); refine box_event ?hg (N := 3) ?hd (cs := #[.int .i64 a1_0, .int .i64 a1_1, .int .i64 a1_2]) (t := 74) ?hr ?_; (case hd => rfl); (case hg => rfl); (case hr => first | (go_simp; done) | (go_simp; rfl)); intro gb262 hg w12 hbox hb; have n0_ := Aside0.mk (Kd.R_below (Kd.R_elderB (zR HO0.out) gb262 (Nat.le_of_eq hg.symm)) hb); have n1_ := Aside0.mk (Kept.below (S := (fun k_ => P0_ k_)) (by repeat (first | (with_reducible first | exact HK.out | apply Kept.alloc | apply Kept.drewN | apply Kept.drew) | exact HK.out)) hb); have n2_ := Aside0.mk (below_step (zW HB.out) hb); have n3_ := Aside0.mk (hbox); have n4_ := Aside0.mk ((by rw [hg]; exact (by first | exact HK.out.1 | exact (show Kept w _ (fun k_ => P0_ k_) from by repeat (first | (with_reducible first | exact HK.out | apply Kept.alloc | apply Kept.drewN | apply Kept.drew) | exact HK.out)).1) : w.heap.size ≤ gb262)); have n5_ := Aside0.mk ((by rw [hg]; exact (below_size (zW HB.out)) : w0.heap.size ≤ gb262)); clear HO0; clear HK; clear HB; have HO0 := n0_; have HK := n1_; have HB := n2_; have BK262 := n3_; have GW262 := n4_; have GE262 := n5_; clear n0_ n1_ n2_ n3_ n4_ n5_; clear hb hbox hg; have hcz13_0 : w12.cell? ⟨gb262, 0, none⟩ = some (.int .i64 a1_0) := (blk_cell BK262.out 0).trans rfl; have hcz13_1 : w12.cell? ⟨gb262, 1, none⟩ = some (.int .i64 a1_1) := (blk_cell BK262.out 1).trans rfl; have hcz13_2 : w12.cell? ⟨gb262, 2, none⟩ = some (.int .i64 a1_2) := (blk_cell BK262.out 2).trans rfl; have hfz13_0 := blk_frozen BK262.out 0; have hfz13_1 := blk_frozen BK262.out 1; have hfz13_2 := blk_frozen BK262.out 2; obtain ⟨Ao14, co14, eo14⟩ := Kd.R_slice HO0.out; subst eo14; have p263 : 0 ≤ ((ji7) : Int) := of_decide_eq_true zA; have q263 : (ji7) < (l0.length : Int) := of_decide_eq_true zA; obtain ⟨ad263, e263, hx263_0, hx263_1, hx263_2⟩ := at_T74 (Kd.R_reads' HO0.out).2.2 (ji7) p263 q263; cases e263; replace p263 := eq_true p263; replace q263 := eq_true q263; have p11 : 0 ≤ ((ji7) : Int) := of_decide_eq_true zA; have q11 : ((ji7) : Int) < ((l0.length : Int) : Int) := of_decide_eq_true zA; obtain ⟨go11, co11, eo11, gb11, gl11, cl11, HG11⟩ := Kd.R_form HO0.out (by omega); (first | cases eo11 | (injection eo11 with ea_ en_ ec_; (first | subst ea_ | (injection ea_ with ea_; subst ea_)); subst ec_; clear en_)); have GB11 := Aside0.mk gb11; have GG11 := Aside0.mk HG11; clear gb11 gl11 HG11; have HMgo11 := Aside0.mk (show (P0_ go11 ∨ w.heap.size ≤ go11) from (HO0.out.1 _ rfl).1); (first | simp only [add_plain] at hx263_0 | skip); (first | simp only [add_plain] at hx263_1 | skip); (first | simp only [add_plain] at hx263_2 | skip); obtain ⟨ce11, hcl11, hM11, hcc11, hfr11⟩ := Kd.R_elem HO0.out z74 ((ji7) : Int) p11 q11; obtain rfl := k74_openM hM11; have hx11_0 : w12.cell? ⟨go11, ((ji7) : Int).toNat * 3, none⟩ = some (.int .i64 ((rd_T74 l0 (ji7)).f0)) := hcc11 0 _ rfl; have hx11_1 : w12.cell? ⟨go11, ((ji7) : Int).toNat * 3 + 1, none⟩ = some (.int .i64 ((rd_T74 l0 (ji7)).f1)) := hcc11 1 _ rfl; have hx11_2 : w12.cell? ⟨go11, ((ji7) : Int).toNat * 3 + 2, none⟩ = some (.int .i64 ((rd_T74 l0 (ji7)).f2)) := hcc11 2 _ rfl; have hf11_0 : w12.frozen? ⟨go11, ((ji7) : Int).toNat * 3, none⟩ = false := hfr11 0; have hf11_1 : w12.frozen? ⟨go11, ((ji7) : Int).toNat * 3 + 1, none⟩ = false := hfr11 1; have hf11_2 : w12.frozen? ⟨go11, ((ji7) : Int).toNat * 3 + 2, none⟩ = false := hfr11 2; clear hcl11 hcc11 hfr11; (try clear hM11); replace p11 := eq_true p11; replace q11 := eq_true q11; have HX15 := Aside0.mk (show Kd.R k74 74 w12 w0.heap.size (fun k_ => (P0_ k_ ∨ w.heap.size ≤ k_) ∧ k_ ≠ gb262) (.slice (some ⟨go11, 0, none⟩) l0.length co14) l0 from (zR HO0.out)); obtain ⟨ce15, hcl15, hM15, hcc15, hfr15⟩ := Kd.R_elem HX15.out z74 ((ji7) : Int) (of_decide_eq_true zA) (by have h_ : ((ji7) : Int) < ((l0.length : Int) : Int) := of_decide_eq_true zA; first | exact h_ | (have e_ := (Kd.R_reads' HO0.out).1; omega) | simpa using h_); obtain rfl := k74_openM hM15; have HP15 := Kd.R_seg HX15.out ((ji7) : Int) (of_decide_eq_true zA) (by have h_ : ((ji7) : Int) < ((l0.length : Int) : Int) := of_decide_eq_true zA; first | exact h_ | (have e_ := (Kd.R_reads' HO0.out).1; omega) | simpa using h_) (seg := [.int .i64 a1_1]) (j := 1) hcl15 hcc15 (show 2 ≤ 3 from by decide) (x' := (⟨(rd_T74 l0 (ji7)).f0, a1_1, (rd_T74 l0 (ji7)).f2⟩ : S74)) (k74_mkM _ _ _ (⟨(rd_T74 l0 (ji7)).f0, a1_1, (rd_T74 l0 (ji7)).f2⟩ : S74) ) (fun _ hk => hk); have hx15_1 := hcc15 1 _ rfl; (try simp only [show (k74).sz = 3 from rfl, Nat.mul_one, Nat.add_zero] at hx15_1); have hf15_1 := hfr15 1; (try simp only [show (k74).sz = 3 from rfl, Nat.mul_one, Nat.add_zero] at hf15_1); clear hcl15 hcc15 hfr15; (try clear hM15)) | ((with_reducible refine gate_store (t := 3) (p := 33) rfl ?_); (try (rw [drewN_self w12]; generalize hq_ : World.drewN w12 _ = w12; have n0_ := Aside0.mk (Kd.R_at hq_ HO0.out); have n1_ := Aside0.mk (blk_at hq_ BK262.out); have n2_ := Aside0.mk (kept_at hq_ HK.out); have n3_ := Aside0.mk (below_at hq_ HB.out); clear hq_ HO0 BK262 HK HB; have HO0 := n0_; have BK262 := n1_; have HK := n2_; have HB := n3_; clear n0_ n1_ n2_ n3_; (try (have HX15 := Aside0.mk (show Kd.R k74 74 w12 w0.heap.size (fun k_ => (P0_ k_ ∨ w.heap.size ≤ k_) ∧ k_ ≠ gb262) (.slice (some ⟨go11, 0, none⟩) l0.length co14) l0 from (zR HO0.out)))); (try (obtain ⟨ce15, hcl15, hM15, hcc15, hfr15⟩ := Kd.R_elem HX15.out z74 ((ji7) : Int) (of_decide_eq_true zA) (by have h_ : ((ji7) : Int) < ((l0.length : Int) : Int) := of_decide_eq_true zA; first | exact h_ | (have e_ := (Kd.R_reads' HO0.out).1; omega) | simpa using h_))); (try (obtain rfl := k74_openM hM15)); (try (have HP15 := Kd.R_seg HX15.out ((ji7) : Int) (of_decide_eq_true zA) (by have h_ : ((ji7) : Int) < ((l0.length : Int) : Int) := of_decide_eq_true zA; first | exact h_ | (have e_ := (Kd.R_reads' HO0.out).1; omega) | simpa using h_) (seg := [.int .i64 a1_1]) (j := 1) hcl15 hcc15 (show 2 ≤ 3 from by decide) (x' := (⟨(rd_T74 l0 (ji7)).f0, a1_1, (rd_T74 l0 (ji7)).f2⟩ : S74)) (k74_mkM _ _ _ (⟨(rd_T74 l0 (ji7)).f0, a1_1, (rd_T74 l0 (ji7)).f2⟩ : S74) ) (fun _ hk => hk))); (try (have hx15_1 := hcc15 1 _ rfl)); (try (try simp only [show (k74).sz = 3 from rfl, Nat.mul_one, Nat.add_zero] at hx15_1)); (try (have hf15_1 := hfr15 1)); (try (try simp only [show (k74).sz = 3 from rfl, Nat.mul_one, Nat.add_zero] at hf15_1)); (try (clear hcl15 hcc15 hfr15; (try clear hM15))))); refine store_event (t := 3) (p := 33) (v := ?vo_w16) (w1 := (w12.setCell ⟨go11, ((ji7) : Int).toNat * 3 + 1, none⟩ (.int .i64 a1_1))) ?hg ?ho ?hn ?hr ?_; (case ho => rfl); (case hg => rfl); (case hn => rfl); (case hr => first | (go_simp; done) | (go_simp; rfl)); intro w16 hw; have hg : w12.grownBy w16 (some go11) := (by rw [hw]; exact HP15.2); have hp_ : Kd.R k74 74 w16 w0.heap.size (fun k_ => (P0_ k_ ∨ w.heap.size ≤ k_) ∧ k_ ≠ gb262) (.slice (some ⟨go11, 0, none⟩) l0.length co14) y264 := (by rw [hw, Ny264.out]; exact HP15.1); clear HP15; have n0_ := Aside0.mk (hp_); have n1_ := Aside0.mk (blk_grown (g := gb262) (o := .cells #[.int .i64 a1_0, .int .i64 a1_1, .int .i64 a1_2] 74 (0, 0)) (zB BK262.out) hg (Kd.R_away HO0.out (fun _ hk => hk.2))); have n2_ := Aside0.mk ((by rw [hw]; exact below_set (HB.out) GB11.out : Below w0.heap.size w0 w16)); have n3_ := Aside0.mk (Kept.of_grown (S := (fun k_ => P0_ k_)) hg (by repeat (first | (with_reducible first | exact HK.out | apply Kept.alloc | apply Kept.drewN | apply Kept.drew | refine Kept.setCell ?_ (.inr GW262.out) _) | exact HK.out)) (fun k_ e_ => (HO0.out.1 k_ e_).1)); clear HO0; clear BK262; clear HB; clear HK; have HO0 := n0_; have BK262 := n1_; have HB := n2_; have HK := n3_; clear n0_ n1_ n2_ n3_; clear hg hw hp_))
      repeat (go_quiet (first | ((with_reducible refine gate_dst (N := 3) rfl ?_); (try (refine gate_guard (by rfl) ?_; dsimp only)); refine box_event ?hg (N := 3) ?hd (cs := #[.int .i64 a1_0, .int .i64 a1_1, .int .i64 a1_2]) (t := 74) ?hr ?_; (case hd => rfl); (case hg => rfl); (case hr => first | (go_simp; done) | (go_simp; rfl)); intro gb262 hg w12 hbox hb; have n0_ := Aside0.mk (Kd.R_below (Kd.R_elderB (zR HO0.out) gb262 (Nat.le_of_eq hg.symm)) hb); have n1_ := Aside0.mk (Kept.below (S := (fun k_ => P0_ k_)) (by repeat (first | (with_reducible first | exact HK.out | apply Kept.alloc | apply Kept.drewN | apply Kept.drew) | exact HK.out)) hb); have n2_ := Aside0.mk (below_step (zW HB.out) hb); have n3_ := Aside0.mk (hbox); have n4_ := Aside0.mk ((by rw [hg]; exact (by first | exact HK.out.1 | exact (show Kept w _ (fun k_ => P0_ k_) from by repeat (first | (with_reducible first | exact HK.out | apply Kept.alloc | apply Kept.drewN | apply Kept.drew) | exact HK.out)).1) : w.heap.size ≤ gb262)); have n5_ := Aside0.mk ((by rw [hg]; exact (below_size (zW HB.out)) : w0.heap.size ≤ gb262)); clear HO0; clear HK; clear HB; have HO0 := n0_; have HK := n1_; have HB := n2_; have BK262 := n3_; have GW262 := n4_; have GE262 := n5_; clear n0_ n1_ n2_ n3_ n4_ n5_; clear hb hbox hg; have hcz13_0 : w12.cell? ⟨gb262, 0, none⟩ = some (.int .i64 a1_0) := (blk_cell BK262.out 0).trans rfl; have hcz13_1 : w12.cell? ⟨gb262, 1, none⟩ = some (.int .i64 a1_1) := (blk_cell BK262.out 1).trans rfl; have hcz13_2 : w12.cell? ⟨gb262, 2, none⟩ = some (.int .i64 a1_2) := (blk_cell BK262.out 2).trans rfl; have hfz13_0 := blk_frozen BK262.out 0; have hfz13_1 := blk_frozen BK262.out 1; have hfz13_2 := blk_frozen BK262.out 2; obtain ⟨Ao14, co14, eo14⟩ := Kd.R_slice HO0.out; subst eo14; have p263 : 0 ≤ ((ji7) : Int) := of_decide_eq_true zA; have q263 : (ji7) < (l0.length : Int) := of_decide_eq_true zA; obtain ⟨ad263, e263, hx263_0, hx263_1, hx263_2⟩ := at_T74 (Kd.R_reads' HO0.out).2.2 (ji7) p263 q263; cases e263; replace p263 := eq_true p263; replace q263 := eq_true q263; have p11 : 0 ≤ ((ji7) : Int) := of_decide_eq_true zA; have q11 : ((ji7) : Int) < ((l0.length : Int) : Int) := of_decide_eq_true zA; obtain ⟨go11, co11, eo11, gb11, gl11, cl11, HG11⟩ := Kd.R_form HO0.out (by omega); (first | cases eo11 | (injection eo11 with ea_ en_ ec_; (first | subst ea_ | (injection ea_ with ea_; subst ea_)); subst ec_; clear en_)); have GB11 := Aside0.mk gb11; have GG11 := Aside0.mk HG11; clear gb11 gl11 HG11; have HMgo11 := Aside0.mk (show (P0_ go11 ∨ w.heap.size ≤ go11) from (HO0.out.1 _ rfl).1); (first | simp only [add_plain] at hx263_0 | skip); (first | simp only [add_plain] at hx263_1 | skip); (first | simp only [add_plain] at hx263_2 | skip); obtain ⟨ce11, hcl11, hM11, hcc11, hfr11⟩ := Kd.R_elem HO0.out z74 ((ji7) : Int) p11 q11; obtain rfl := k74_openM hM11; have hx11_0 : w12.cell? ⟨go11, ((ji7) : Int).toNat * 3, none⟩ = some (.int .i64 ((rd_T74 l0 (ji7)).f0)) := hcc11 0 _ rfl; have hx11_1 : w12.cell? ⟨go11, ((ji7) : Int).toNat * 3 + 1, none⟩ = some (.int .i64 ((rd_T74 l0 (ji7)).f1)) := hcc11 1 _ rfl; have hx11_2 : w12.cell? ⟨go11, ((ji7) : Int).toNat * 3 + 2, none⟩ = some (.int .i64 ((rd_T74 l0 (ji7)).f2)) := hcc11 2 _ rfl; have hf11_0 : w12.frozen? ⟨go11, ((ji7) : Int).toNat * 3, none⟩ = false := hfr11 0; have hf11_1 : w12.frozen? ⟨go11, ((ji7) : Int).toNat * 3 + 1, none⟩ = false := hfr11 1; have hf11_2 : w12.frozen? ⟨go11, ((ji7) : Int).toNat * 3 + 2, none⟩ = false := hfr11 2; clear hcl11 hcc11 hfr11; (try clear hM11); replace p11 := eq_true p11; replace q11 := eq_true q11; have HX15 := Aside0.mk (show Kd.R k74 74 w12 w0.heap.size (fun k_ => (P0_ k_ ∨ w.heap.size ≤ k_) ∧ k_ ≠ gb262) (.slice (some ⟨go11, 0, none⟩) l0.length co14) l0 from (zR HO0.out)); obtain ⟨ce15, hcl15, hM15, hcc15, hfr15⟩ := Kd.R_elem HX15.out z74 ((ji7) : Int) (of_decide_eq_true zA) (by have h_ : ((ji7) : Int) < ((l0.length : Int) : Int) := of_decide_eq_true zA; first | exact h_ | (have e_ := (Kd.R_reads' HO0.out).1; omega) | simpa using h_); obtain rfl := k74_openM hM15; have HP15 := Kd.R_seg HX15.out ((ji7) : Int) (of_decide_eq_true zA) (by have h_ : ((ji7) : Int) < ((l0.length : Int) : Int) := of_decide_eq_true zA; first | exact h_ | (have e_ := (Kd.R_reads' HO0.out).1; omega) | simpa using h_) (seg := [.int .i64 a1_1]) (j := 1) hcl15 hcc15 (show 2 ≤ 3 from by decide) (x' := (⟨(rd_T74 l0 (ji7)).f0, a1_1, (rd_T74 l0 (ji7)).f2⟩ : S74)) (k74_mkM _ _ _ (⟨(rd_T74 l0 (ji7)).f0, a1_1, (rd_T74 l0 (ji7)).f2⟩ : S74) ) (fun _ hk => hk); have hx15_1 := hcc15 1 _ rfl; (try simp only [show (k74).sz = 3 from rfl, Nat.mul_one, Nat.add_zero] at hx15_1); have hf15_1 := hfr15 1; (try simp only [show (k74).sz = 3 from rfl, Nat.mul_one, Nat.add_zero] at hf15_1); clear hcl15 hcc15 hfr15; (try clear hM15)) | ((with_reducible refine gate_store (t := 3) (p := 33) rfl ?_); (try (rw [drewN_self w12]; generalize hq_ : World.drewN w12 _ = w12; have n0_ := Aside0.mk (Kd.R_at hq_ HO0.out); have n1_ := Aside0.mk (blk_at hq_ BK262.out); have n2_ := Aside0.mk (kept_at hq_ HK.out); have n3_ := Aside0.mk (below_at hq_ HB.out); clear hq_ HO0 BK262 HK HB; have HO0 := n0_; have BK262 := n1_; have HK := n2_; have HB := n3_; clear n0_ n1_ n2_ n3_; (try (have HX15 := Aside0.mk (show Kd.R k74 74 w12 w0.heap.size (fun k_ => (P0_ k_ ∨ w.heap.size ≤ k_) ∧ k_ ≠ gb262) (.slice (some ⟨go11, 0, none⟩) l0.length co14) l0 from (zR HO0.out)))); (try (obtain ⟨ce15, hcl15, hM15, hcc15, hfr15⟩ := Kd.R_elem HX15.out z74 ((ji7) : Int) (of_decide_eq_true zA) (by have h_ : ((ji7) : Int) < ((l0.length : Int) : Int) := of_decide_eq_true zA; first | exact h_ | (have e_ := (Kd.R_reads' HO0.out).1; omega) | simpa using h_))); (try (obtain rfl := k74_openM hM15)); (try (have HP15 := Kd.R_seg HX15.out ((ji7) : Int) (of_decide_eq_true zA) (by have h_ : ((ji7) : Int) < ((l0.length : Int) : Int) := of_decide_eq_true zA; first | exact h_ | (have e_ := (Kd.R_reads' HO0.out).1; omega) | simpa using h_) (seg := [.int .i64 a1_1]) (j := 1) hcl15 hcc15 (show 2 ≤ 3 from by decide) (x' := (⟨(rd_T74 l0 (ji7)).f0, a1_1, (rd_T74 l0 (ji7)).f2⟩ : S74)) (k74_mkM _ _ _ (⟨(rd_T74 l0 (ji7)).f0, a1_1, (rd_T74 l0 (ji7)).f2⟩ : S74) ) (fun _ hk => hk))); (try (have hx15_1 := hcc15 1 _ rfl)); (try (try simp only [show (k74).sz = 3 from rfl, Nat.mul_one, Nat.add_zero] at hx15_1)); (try (have hf15_1 := hfr15 1)); (try (try simp only [show (k74).sz = 3 from rfl, Nat.mul_one, Nat.add_zero] at hf15_1)); (try (clear hcl15 hcc15 hfr15; (try clear hM15))))); refine store_event (t := 3) (p := 33) (v := ?vo_w16) (w1 := (w12.setCell ⟨go11, ((ji7) : Int).toNat * 3 + 1, none⟩ (.int .i64 a1_1))) ?hg ?ho ?hn ?hr ?_; (case ho => rfl); (case hg => rfl); (case hn => rfl); (case hr => first | (go_simp; done) | (go_simp; rfl)); intro w16 hw; have hg : w12.grownBy w16 (some go11) := (by rw [hw]; exact HP15.2); have hp_ : Kd.R k74 74 w16 w0.heap.size (fun k_ => (P0_ k_ ∨ w.heap.size ≤ k_) ∧ k_ ≠ gb262) (.slice (some ⟨go11, 0, none⟩) l0.length co14) y264 := (by rw [hw, Ny264.out]; exact HP15.1); clear HP15; have n0_ := Aside0.mk (hp_); have n1_ := Aside0.mk (blk_grown (g := gb262) (o := .cells #[.int .i64 a1_0, .int .i64 a1_1, .int .i64 a1_2] 74 (0, 0)) (zB BK262.out) hg (Kd.R_away HO0.out (fun _ hk => hk.2))); have n2_ := Aside0.mk ((by rw [hw]; exact below_set (HB.out) GB11.out : Below w0.heap.size w0 w16)); have n3_ := Aside0.mk (Kept.of_grown (S := (fun k_ => P0_ k_)) hg (by repeat (first | (with_reducible first | exact HK.out | apply Kept.alloc | apply Kept.drewN | apply Kept.drew | refine Kept.setCell ?_ (.inr GW262.out) _) | exact HK.out)) (fun k_ e_ => (HO0.out.1 k_ e_).1)); clear HO0; clear BK262; clear HB; clear HK; have HO0 := n0_; have BK262 := n1_; have HB := n2_; have HK := n3_; clear n0_ n1_ n2_ n3_; clear hg hw hp_)); try go_wp2_with (first | ((with_reducible refine gate_dst (N := 3) rfl ?_); (try (refine gate_guard (by rfl) ?_; dsimp only)); refine box_event ?hg (N := 3) ?hd (cs := #[.int .i64 a1_0, .int .i64 a1_1, .int .i64 a1_2]) (t := 74) ?hr ?_; (case hd => rfl); (case hg => rfl); (case hr => first | (go_simp; done) | (go_simp; rfl)); intro gb262 hg w12 hbox hb; have n0_ := Aside0.mk (Kd.R_below (Kd.R_elderB (zR HO0.out) gb262 (Nat.le_of_eq hg.symm)) hb); have n1_ := Aside0.mk (Kept.below (S := (fun k_ => P0_ k_)) (by repeat (first | (with_reducible first | exact HK.out | apply Kept.alloc | apply Kept.drewN | apply Kept.drew) | exact HK.out)) hb); have n2_ := Aside0.mk (below_step (zW HB.out) hb); have n3_ := Aside0.mk (hbox); have n4_ := Aside0.mk ((by rw [hg]; exact (by first | exact HK.out.1 | exact (show Kept w _ (fun k_ => P0_ k_) from by repeat (first | (with_reducible first | exact HK.out | apply Kept.alloc | apply Kept.drewN | apply Kept.drew) | exact HK.out)).1) : w.heap.size ≤ gb262)); have n5_ := Aside0.mk ((by rw [hg]; exact (below_size (zW HB.out)) : w0.heap.size ≤ gb262)); clear HO0; clear HK; clear HB; have HO0 := n0_; have HK := n1_; have HB := n2_; have BK262 := n3_; have GW262 := n4_; have GE262 := n5_; clear n0_ n1_ n2_ n3_ n4_ n5_; clear hb hbox hg; have hcz13_0 : w12.cell? ⟨gb262, 0, none⟩ = some (.int .i64 a1_0) := (blk_cell BK262.out 0).trans rfl; have hcz13_1 : w12.cell? ⟨gb262, 1, none⟩ = some (.int .i64 a1_1) := (blk_cell BK262.out 1).trans rfl; have hcz13_2 : w12.cell? ⟨gb262, 2, none⟩ = some (.int .i64 a1_2) := (blk_cell BK262.out 2).trans rfl; have hfz13_0 := blk_frozen BK262.out 0; have hfz13_1 := blk_frozen BK262.out 1; have hfz13_2 := blk_frozen BK262.out 2; obtain ⟨Ao14, co14, eo14⟩ := Kd.R_slice HO0.out; subst eo14; have p263 : 0 ≤ ((ji7) : Int) := of_decide_eq_true zA; have q263 : (ji7) < (l0.length : Int) := of_decide_eq_true zA; obtain ⟨ad263, e263, hx263_0, hx263_1, hx263_2⟩ := at_T74 (Kd.R_reads' HO0.out).2.2 (ji7) p263 q263; cases e263; replace p263 := eq_true p263; replace q263 := eq_true q263; have p11 : 0 ≤ ((ji7) : Int) := of_decide_eq_true zA; have q11 : ((ji7) : Int) < ((l0.length : Int) : Int) := of_decide_eq_true zA; obtain ⟨go11, co11, eo11, gb11, gl11, cl11, HG11⟩ := Kd.R_form HO0.out (by omega); (first | cases eo11 | (injection eo11 with ea_ en_ ec_; (first | subst ea_ | (injection ea_ with ea_; subst ea_)); subst ec_; clear en_)); have GB11 := Aside0.mk gb11; have GG11 := Aside0.mk HG11; clear gb11 gl11 HG11; have HMgo11 := Aside0.mk (show (P0_ go11 ∨ w.heap.size ≤ go11) from (HO0.out.1 _ rfl).1); (first | simp only [add_plain] at hx263_0 | skip); (first | simp only [add_plain] at hx263_1 | skip); (first | simp only [add_plain] at hx263_2 | skip); obtain ⟨ce11, hcl11, hM11, hcc11, hfr11⟩ := Kd.R_elem HO0.out z74 ((ji7) : Int) p11 q11; obtain rfl := k74_openM hM11; have hx11_0 : w12.cell? ⟨go11, ((ji7) : Int).toNat * 3, none⟩ = some (.int .i64 ((rd_T74 l0 (ji7)).f0)) := hcc11 0 _ rfl; have hx11_1 : w12.cell? ⟨go11, ((ji7) : Int).toNat * 3 + 1, none⟩ = some (.int .i64 ((rd_T74 l0 (ji7)).f1)) := hcc11 1 _ rfl; have hx11_2 : w12.cell? ⟨go11, ((ji7) : Int).toNat * 3 + 2, none⟩ = some (.int .i64 ((rd_T74 l0 (ji7)).f2)) := hcc11 2 _ rfl; have hf11_0 : w12.frozen? ⟨go11, ((ji7) : Int).toNat * 3, none⟩ = false := hfr11 0; have hf11_1 : w12.frozen? ⟨go11, ((ji7) : Int).toNat * 3 + 1, none⟩ = false := hfr11 1; have hf11_2 : w12.frozen? ⟨go11, ((ji7) : Int).toNat * 3 + 2, none⟩ = false := hfr11 2; clear hcl11 hcc11 hfr11; (try clear hM11); replace p11 := eq_true p11; replace q11 := eq_true q11; have HX15 := Aside0.mk (show Kd.R k74 74 w12 w0.heap.size (fun k_ => (P0_ k_ ∨ w.heap.size ≤ k_) ∧ k_ ≠ gb262) (.slice (some ⟨go11, 0, none⟩) l0.length co14) l0 from (zR HO0.out)); obtain ⟨ce15, hcl15, hM15, hcc15, hfr15⟩ := Kd.R_elem HX15.out z74 ((ji7) : Int) (of_decide_eq_true zA) (by have h_ : ((ji7) : Int) < ((l0.length : Int) : Int) := of_decide_eq_true zA; first | exact h_ | (have e_ := (Kd.R_reads' HO0.out).1; omega) | simpa using h_); obtain rfl := k74_openM hM15; have HP15 := Kd.R_seg HX15.out ((ji7) : Int) (of_decide_eq_true zA) (by have h_ : ((ji7) : Int) < ((l0.length : Int) : Int) := of_decide_eq_true zA; first | exact h_ | (have e_ := (Kd.R_reads' HO0.out).1; omega) | simpa using h_) (seg := [.int .i64 a1_1]) (j := 1) hcl15 hcc15 (show 2 ≤ 3 from by decide) (x' := (⟨(rd_T74 l0 (ji7)).f0, a1_1, (rd_T74 l0 (ji7)).f2⟩ : S74)) (k74_mkM _ _ _ (⟨(rd_T74 l0 (ji7)).f0, a1_1, (rd_T74 l0 (ji7)).f2⟩ : S74) ) (fun _ hk => hk); have hx15_1 := hcc15 1 _ rfl; (try simp only [show (k74).sz = 3 from rfl, Nat.mul_one, Nat.add_zero] at hx15_1); have hf15_1 := hfr15 1; (try simp only [show (k74).sz = 3 from rfl, Nat.mul_one, Nat.add_zero] at hf15_1); clear hcl15 hcc15 hfr15; (try clear hM15)) | ((with_reducible refine gate_store (t := 3) (p := 33) rfl ?_); (try (rw [drewN_self w12]; generalize hq_ : World.drewN w12 _ = w12; have n0_ := Aside0.mk (Kd.R_at hq_ HO0.out); have n1_ := Aside0.mk (blk_at hq_ BK262.out); have n2_ := Aside0.mk (kept_at hq_ HK.out); have n3_ := Aside0.mk (below_at hq_ HB.out); clear hq_ HO0 BK262 HK HB; have HO0 := n0_; have BK262 := n1_; have HK := n2_; have HB := n3_; clear n0_ n1_ n2_ n3_; (try (have HX15 := Aside0.mk (show Kd.R k74 74 w12 w0.heap.size (fun k_ => (P0_ k_ ∨ w.heap.size ≤ k_) ∧ k_ ≠ gb262) (.slice (some ⟨go11, 0, none⟩) l0.length co14) l0 from (zR HO0.out)))); (try (obtain ⟨ce15, hcl15, hM15, hcc15, hfr15⟩ := Kd.R_elem HX15.out z74 ((ji7) : Int) (of_decide_eq_true zA) (by have h_ : ((ji7) : Int) < ((l0.length : Int) : Int) := of_decide_eq_true zA; first | exact h_ | (have e_ := (Kd.R_reads' HO0.out).1; omega) | simpa using h_))); (try (obtain rfl := k74_openM hM15)); (try (have HP15 := Kd.R_seg HX15.out ((ji7) : Int) (of_decide_eq_true zA) (by have h_ : ((ji7) : Int) < ((l0.length : Int) : Int) := of_decide_eq_true zA; first | exact h_ | (have e_ := (Kd.R_reads' HO0.out).1; omega) | simpa using h_) (seg := [.int .i64 a1_1]) (j := 1) hcl15 hcc15 (show 2 ≤ 3 from by decide) (x' := (⟨(rd_T74 l0 (ji7)).f0, a1_1, (rd_T74 l0 (ji7)).f2⟩ : S74)) (k74_mkM _ _ _ (⟨(rd_T74 l0 (ji7)).f0, a1_1, (rd_T74 l0 (ji7)).f2⟩ : S74) ) (fun _ hk => hk))); (try (have hx15_1 := hcc15 1 _ rfl)); (try (try simp only [show (k74).sz = 3 from rfl, Nat.mul_one, Nat.add_zero] at hx15_1)); (try (have hf15_1 := hfr15 1)); (try (try simp only [show (k74).sz = 3 from rfl, Nat.mul_one, Nat.add_zero] at hf15_1)); (try (clear hcl15 hcc15 hfr15; (try clear hM15))))); refine store_event (t := 3) (p := 33) (v := ?vo_w16) (w1 := (w12.setCell ⟨go11, ((ji7) : Int).toNat * 3 + 1, none⟩ (.int .i64 a1_1))) ?hg ?ho ?hn ?hr ?_; (case ho => rfl); (case hg => rfl); (case hn => rfl); (case hr => first | (go_simp; done) | (go_simp; rfl)); intro w16 hw; have hg : w12.grownBy w16 (some go11) := (by rw [hw]; exact HP15.2); have hp_ : Kd.R k74 74 w16 w0.heap.size (fun k_ => (P0_ k_ ∨ w.heap.size ≤ k_) ∧ k_ ≠ gb262) (.slice (some ⟨go11, 0, none⟩) l0.length co14) y264 := (by rw [hw, Ny264.out]; exact HP15.1); clear HP15; have n0_ := Aside0.mk (hp_); have n1_ := Aside0.mk (blk_grown (g := gb262) (o := .cells #[.int .i64 a1_0, .int .i64 a1_1, .int .i64 a1_2] 74 (0, 0)) (zB BK262.out) hg (Kd.R_away HO0.out (fun _ hk => hk.2))); have n2_ := Aside0.mk ((by rw [hw]; exact below_set (HB.out) GB11.out : Below w0.heap.size w0 w16)); have n3_ := Aside0.mk (Kept.of_grown (S := (fun k_ => P0_ k_)) hg (by repeat (first | (with_reducible first | exact HK.out | apply Kept.alloc | apply Kept.drewN | apply Kept.drew | refine Kept.setCell ?_ (.inr GW262.out) _) | exact HK.out)) (fun k_ e_ => (HO0.out.1 k_ e_).1)); clear HO0; clear BK262; clear HB; clear HK; have HO0 := n0_; have BK262 := n1_; have HB := n2_; have HK := n3_; clear n0_ n1_ n2_ n3_; clear hg hw hp_)))
      go_ret
      exact ⟨_, by first | rfl | (simp [errW_none, errW_some] <;> rfl) | (simp only [← hji7]; first | rfl | (simp [errW_none, errW_some] <;> rfl)) | (simp [*, errW_none, errW_some] <;> rfl), by (with_reducible repeat (first | apply Kd.R_alloc | apply Kd.R_drewN | apply Kd.R_drew)); exact Kd.R_mono HO0.out (fun _ hk => hk.1), zX HB.out GE262.out, by repeat (first | (with_reducible first | exact HK.out | apply Kept.alloc | apply Kept.drewN | apply Kept.drew | refine Kept.setCell ?_ (.inr GW262.out) _) | exact HK.out)⟩
     ·rw [if_neg c10] at H
      have c10b0 : (((rd_T74 l0 (ji7)).f2) == a1_2) = false := beq_eq_false_iff_ne.mpr c10
      have c10b1 : (((rd_T74 l0 (ji7)).f2) != a1_2) = true := bne_iff_ne.mpr c10
      by_cases c17 : l0.length < 5864062014805
      ·rw [if_pos c17] at H
       have LMc17 := Aside0.mk c17
       clear c17
       obtain ⟨y265, hy265⟩ : ∃ y_ : List (S74), y_ = (l0 ++ [(⟨a1_0, a1_1, a1_2⟩ : S74)]) := ⟨_, rfl⟩
       replace H : (some y265) = some r := by first | (rw [hy265]; with_reducible exact H) | (have H2_ := (Option.bind_some _ _).symm.trans H; rw [hy265]; with_reducible exact H2_) | (have H2_ := (Option.bind_some _ _).symm.trans H; with_reducible exact H2_) | with_reducible exact H | (rw [hy265]; exact H) | exact H
       have Ny265 := Aside0.mk hy265
       clear hy265
       obtain rfl := Option.some.inj H
       go_enter Tryd.func89, Tryd.ntmps89
       go_wp2_with (first | ((with_reducible refine gate_dst (N := 3) rfl ?_); (try (refine gate_guard (by rfl) ?_; dsimp only)); refine box_event ?hg (N := 3) ?hd (cs := #[.int .i64 a1_0, .int .i64 a1_1, .int .i64 a1_2]) (t := 74) ?hr ?_; (case hd => rfl); (case hg => rfl); (case hr => first | (go_simp; done) | (go_simp; rfl)); intro gb262 hg w18 hbox hb; have n0_ := Aside0.mk (Kd.R_below (Kd.R_elderB (zR HO0.out) gb262 (Nat.le_of_eq hg.symm)) hb); have n1_ := Aside0.mk (Kept.below (S := (fun k_ => P0_ k_)) (by repeat (first | (with_reducible first | exact HK.out | apply Kept.alloc | apply Kept.drewN | apply Kept.drew) | exact HK.out)) hb); have n2_ := Aside0.mk (below_step (zW HB.out) hb); have n3_ := Aside0.mk (hbox); have n4_ := Aside0.mk ((by rw [hg]; exact (by first | exact HK.out.1 | exact (show Kept w _ (fun k_ => P0_ k_) from by repeat (first | (with_reducible first | exact HK.out | apply Kept.alloc | apply Kept.drewN | apply Kept.drew) | exact HK.out)).1) : w.heap.size ≤ gb262)); have n5_ := Aside0.mk ((by rw [hg]; exact (below_size (zW HB.out)) : w0.heap.size ≤ gb262)); clear HO0; clear HK; clear HB; have HO0 := n0_; have HK := n1_; have HB := n2_; have BK262 := n3_; have GW262 := n4_; have GE262 := n5_; clear n0_ n1_ n2_ n3_ n4_ n5_; clear hb hbox hg; have hcz19_0 : w18.cell? ⟨gb262, 0, none⟩ = some (.int .i64 a1_0) := (blk_cell BK262.out 0).trans rfl; have hcz19_1 : w18.cell? ⟨gb262, 1, none⟩ = some (.int .i64 a1_1) := (blk_cell BK262.out 1).trans rfl; have hcz19_2 : w18.cell? ⟨gb262, 2, none⟩ = some (.int .i64 a1_2) := (blk_cell BK262.out 2).trans rfl; have hfz19_0 := blk_frozen BK262.out 0; have hfz19_1 := blk_frozen BK262.out 1; have hfz19_2 := blk_frozen BK262.out 2; obtain ⟨Ao20, co20, eo20⟩ := Kd.R_slice HO0.out; subst eo20; have p263 : 0 ≤ ((ji7) : Int) := of_decide_eq_true zA; have q263 : (ji7) < (l0.length : Int) := of_decide_eq_true zA; obtain ⟨ad263, e263, hx263_0, hx263_1, hx263_2⟩ := at_T74 (Kd.R_reads' HO0.out).2.2 (ji7) p263 q263; cases e263; replace p263 := eq_true p263; replace q263 := eq_true q263) | ((with_reducible refine gate_builtin (b := .append) (xs := #[.tmp 35, .tmp 37]) rfl ?_); (try (refine gate_guard (by rfl) ?_; dsimp only)); at_builtin; refine Kd.R_append k74 (w0 := w0) w0.heap.size rfl (.tmp 35) (.tmp 37) 28 74 (.agg #[(.int .i64 0), (.int .i64 0), (.int .i64 0)]) 24 rfl Tryd.underlying28 info74 rfl (by decide) (by omega) (.slice (some ad263) l0.length co20) l0 (⟨a1_0, a1_1, a1_2⟩ : S74) [.int .i64 a1_0, .int .i64 a1_1, .int .i64 a1_2] (fun k_ => (P0_ k_ ∨ w.heap.size ≤ k_) ∧ k_ ≠ gb262) (fun _ => False) rfl rfl ?aP (fun _ hk => hk.elim) ?aF ?aO ?aB ?aS ?aL ?_; (case aP => exact k74_mkM _ _ _ (⟨a1_0, a1_1, a1_2⟩ : S74)); (case aB => exact (zX HB.out GE262.out)); (case aF => exact (fun k_ hk => ⟨(.inr (Nat.le_trans (by first | exact HK.out.1 | exact (show Kept w _ (fun k_ => P0_ k_) from by repeat (first | (with_reducible first | exact HK.out | apply Kept.alloc | apply Kept.drewN | apply Kept.drew | refine Kept.setCell ?_ (.inr GW262.out) _) | exact HK.out)).1) hk)), Kd.freshB (g := gb262) (o := .cells #[.int .i64 a1_0, .int .i64 a1_1, .int .i64 a1_2] 74 (0, 0)) (zB BK262.out) k_ hk⟩)); (case aO => exact (zR HO0.out)); (case aS => exact (below_size (zX HB.out GE262.out))); (case aL => have := LMc17.out; omega); intro v266 w21 ho hb hg hat; rw [← Ny265.out] at ho; have n0_ := Aside0.mk (blk_grown (g := gb262) (o := .cells #[.int .i64 a1_0, .int .i64 a1_1, .int .i64 a1_2] 74 (0, 0)) (zB BK262.out) hg (Kd.R_away HO0.out (fun _ hk => hk.2))); have n1_ := Aside0.mk (hb); have n2_ := Aside0.mk (Kept.of_grown (S := (fun k_ => P0_ k_)) hg (by repeat (first | (with_reducible first | exact HK.out | apply Kept.alloc | apply Kept.drewN | apply Kept.drew | refine Kept.setCell ?_ (.inr GW262.out) _) | exact HK.out)) (fun k_ e_ => (HO0.out.1 k_ e_).1)); have n3_ := Aside0.mk (ho); clear BK262; clear HB; clear HK; clear HO0; have BK262 := n0_; have HB := n1_; have HK := n2_; have HO267 := n3_; clear n0_ n1_ n2_ n3_; clear ho hb hg hat))
       repeat (go_quiet (first | ((with_reducible refine gate_dst (N := 3) rfl ?_); (try (refine gate_guard (by rfl) ?_; dsimp only)); refine box_event ?hg (N := 3) ?hd (cs := #[.int .i64 a1_0, .int .i64 a1_1, .int .i64 a1_2]) (t := 74) ?hr ?_; (case hd => rfl); (case hg => rfl); (case hr => first | (go_simp; done) | (go_simp; rfl)); intro gb262 hg w18 hbox hb; have n0_ := Aside0.mk (Kd.R_below (Kd.R_elderB (zR HO0.out) gb262 (Nat.le_of_eq hg.symm)) hb); have n1_ := Aside0.mk (Kept.below (S := (fun k_ => P0_ k_)) (by repeat (first | (with_reducible first | exact HK.out | apply Kept.alloc | apply Kept.drewN | apply Kept.drew) | exact HK.out)) hb); have n2_ := Aside0.mk (below_step (zW HB.out) hb); have n3_ := Aside0.mk (hbox); have n4_ := Aside0.mk ((by rw [hg]; exact (by first | exact HK.out.1 | exact (show Kept w _ (fun k_ => P0_ k_) from by repeat (first | (with_reducible first | exact HK.out | apply Kept.alloc | apply Kept.drewN | apply Kept.drew) | exact HK.out)).1) : w.heap.size ≤ gb262)); have n5_ := Aside0.mk ((by rw [hg]; exact (below_size (zW HB.out)) : w0.heap.size ≤ gb262)); clear HO0; clear HK; clear HB; have HO0 := n0_; have HK := n1_; have HB := n2_; have BK262 := n3_; have GW262 := n4_; have GE262 := n5_; clear n0_ n1_ n2_ n3_ n4_ n5_; clear hb hbox hg; have hcz19_0 : w18.cell? ⟨gb262, 0, none⟩ = some (.int .i64 a1_0) := (blk_cell BK262.out 0).trans rfl; have hcz19_1 : w18.cell? ⟨gb262, 1, none⟩ = some (.int .i64 a1_1) := (blk_cell BK262.out 1).trans rfl; have hcz19_2 : w18.cell? ⟨gb262, 2, none⟩ = some (.int .i64 a1_2) := (blk_cell BK262.out 2).trans rfl; have hfz19_0 := blk_frozen BK262.out 0; have hfz19_1 := blk_frozen BK262.out 1; have hfz19_2 := blk_frozen BK262.out 2; obtain ⟨Ao20, co20, eo20⟩ := Kd.R_slice HO0.out; subst eo20; have p263 : 0 ≤ ((ji7) : Int) := of_decide_eq_true zA; have q263 : (ji7) < (l0.length : Int) := of_decide_eq_true zA; obtain ⟨ad263, e263, hx263_0, hx263_1, hx263_2⟩ := at_T74 (Kd.R_reads' HO0.out).2.2 (ji7) p263 q263; cases e263; replace p263 := eq_true p263; replace q263 := eq_true q263) | ((with_reducible refine gate_builtin (b := .append) (xs := #[.tmp 35, .tmp 37]) rfl ?_); (try (refine gate_guard (by rfl) ?_; dsimp only)); at_builtin; refine Kd.R_append k74 (w0 := w0) w0.heap.size rfl (.tmp 35) (.tmp 37) 28 74 (.agg #[(.int .i64 0), (.int .i64 0), (.int .i64 0)]) 24 rfl Tryd.underlying28 info74 rfl (by decide) (by omega) (.slice (some ad263) l0.length co20) l0 (⟨a1_0, a1_1, a1_2⟩ : S74) [.int .i64 a1_0, .int .i64 a1_1, .int .i64 a1_2] (fun k_ => (P0_ k_ ∨ w.heap.size ≤ k_) ∧ k_ ≠ gb262) (fun _ => False) rfl rfl ?aP (fun _ hk => hk.elim) ?aF ?aO ?aB ?aS ?aL ?_; (case aP => exact k74_mkM _ _ _ (⟨a1_0, a1_1, a1_2⟩ : S74)); (case aB => exact (zX HB.out GE262.out)); (case aF => exact (fun k_ hk => ⟨(.inr (Nat.le_trans (by first | exact HK.out.1 | exact (show Kept w _ (fun k_ => P0_ k_) from by repeat (first | (with_reducible first | exact HK.out | apply Kept.alloc | apply Kept.drewN | apply Kept.drew | refine Kept.setCell ?_ (.inr GW262.out) _) | exact HK.out)).1) hk)), Kd.freshB (g := gb262) (o := .cells #[.int .i64 a1_0, .int .i64 a1_1, .int .i64 a1_2] 74 (0, 0)) (zB BK262.out) k_ hk⟩)); (case aO => exact (zR HO0.out)); (case aS => exact (below_size (zX HB.out GE262.out))); (case aL => have := LMc17.out; omega); intro v266 w21 ho hb hg hat; rw [← Ny265.out] at ho; have n0_ := Aside0.mk (blk_grown (g := gb262) (o := .cells #[.int .i64 a1_0, .int .i64 a1_1, .int .i64 a1_2] 74 (0, 0)) (zB BK262.out) hg (Kd.R_away HO0.out (fun _ hk => hk.2))); have n1_ := Aside0.mk (hb); have n2_ := Aside0.mk (Kept.of_grown (S := (fun k_ => P0_ k_)) hg (by repeat (first | (with_reducible first | exact HK.out | apply Kept.alloc | apply Kept.drewN | apply Kept.drew | refine Kept.setCell ?_ (.inr GW262.out) _) | exact HK.out)) (fun k_ e_ => (HO0.out.1 k_ e_).1)); have n3_ := Aside0.mk (ho); clear BK262; clear HB; clear HK; clear HO0; have BK262 := n0_; have HB := n1_; have HK := n2_; have HO267 := n3_; clear n0_ n1_ n2_ n3_; clear ho hb hg hat)); try go_wp2_with (first | ((with_reducible refine gate_dst (N := 3) rfl ?_); (try (refine gate_guard (by rfl) ?_; dsimp only)); refine box_event ?hg (N := 3) ?hd (cs := #[.int .i64 a1_0, .int .i64 a1_1, .int .i64 a1_2]) (t := 74) ?hr ?_; (case hd => rfl); (case hg => rfl); (case hr => first | (go_simp; done) | (go_simp; rfl)); intro gb262 hg w18 hbox hb; have n0_ := Aside0.mk (Kd.R_below (Kd.R_elderB (zR HO0.out) gb262 (Nat.le_of_eq hg.symm)) hb); have n1_ := Aside0.mk (Kept.below (S := (fun k_ => P0_ k_)) (by repeat (first | (with_reducible first | exact HK.out | apply Kept.alloc | apply Kept.drewN | apply Kept.drew) | exact HK.out)) hb); have n2_ := Aside0.mk (below_step (zW HB.out) hb); have n3_ := Aside0.mk (hbox); have n4_ := Aside0.mk ((by rw [hg]; exact (by first | exact HK.out.1 | exact (show Kept w _ (fun k_ => P0_ k_) from by repeat (first | (with_reducible first | exact HK.out | apply Kept.alloc | apply Kept.drewN | apply Kept.drew) | exact HK.out)).1) : w.heap.size ≤ gb262)); have n5_ := Aside0.mk ((by rw [hg]; exact (below_size (zW HB.out)) : w0.heap.size ≤ gb262)); clear HO0; clear HK; clear HB; have HO0 := n0_; have HK := n1_; have HB := n2_; have BK262 := n3_; have GW262 := n4_; have GE262 := n5_; clear n0_ n1_ n2_ n3_ n4_ n5_; clear hb hbox hg; have hcz19_0 : w18.cell? ⟨gb262, 0, none⟩ = some (.int .i64 a1_0) := (blk_cell BK262.out 0).trans rfl; have hcz19_1 : w18.cell? ⟨gb262, 1, none⟩ = some (.int .i64 a1_1) := (blk_cell BK262.out 1).trans rfl; have hcz19_2 : w18.cell? ⟨gb262, 2, none⟩ = some (.int .i64 a1_2) := (blk_cell BK262.out 2).trans rfl; have hfz19_0 := blk_frozen BK262.out 0; have hfz19_1 := blk_frozen BK262.out 1; have hfz19_2 := blk_frozen BK262.out 2; obtain ⟨Ao20, co20, eo20⟩ := Kd.R_slice HO0.out; subst eo20; have p263 : 0 ≤ ((ji7) : Int) := of_decide_eq_true zA; have q263 : (ji7) < (l0.length : Int) := of_decide_eq_true zA; obtain ⟨ad263, e263, hx263_0, hx263_1, hx263_2⟩ := at_T74 (Kd.R_reads' HO0.out).2.2 (ji7) p263 q263; cases e263; replace p263 := eq_true p263; replace q263 := eq_true q263) | ((with_reducible refine gate_builtin (b := .append) (xs := #[.tmp 35, .tmp 37]) rfl ?_); (try (refine gate_guard (by rfl) ?_; dsimp only)); at_builtin; refine Kd.R_append k74 (w0 := w0) w0.heap.size rfl (.tmp 35) (.tmp 37) 28 74 (.agg #[(.int .i64 0), (.int .i64 0), (.int .i64 0)]) 24 rfl Tryd.underlying28 info74 rfl (by decide) (by omega) (.slice (some ad263) l0.length co20) l0 (⟨a1_0, a1_1, a1_2⟩ : S74) [.int .i64 a1_0, .int .i64 a1_1, .int .i64 a1_2] (fun k_ => (P0_ k_ ∨ w.heap.size ≤ k_) ∧ k_ ≠ gb262) (fun _ => False) rfl rfl ?aP (fun _ hk => hk.elim) ?aF ?aO ?aB ?aS ?aL ?_; (case aP => exact k74_mkM _ _ _ (⟨a1_0, a1_1, a1_2⟩ : S74)); (case aB => exact (zX HB.out GE262.out)); (case aF => exact (fun k_ hk => ⟨(.inr (Nat.le_trans (by first | exact HK.out.1 | exact (show Kept w _ (fun k_ => P0_ k_) from by repeat (first | (with_reducible first | exact HK.out | apply Kept.alloc | apply Kept.drewN | apply Kept.drew | refine Kept.setCell ?_ (.inr GW262.out) _) | exact HK.out)).1) hk)), Kd.freshB (g := gb262) (o := .cells #[.int .i64 a1_0, .int .i64 a1_1, .int .i64 a1_2] 74 (0, 0)) (zB BK262.out) k_ hk⟩)); (case aO => exact (zR HO0.out)); (case aS => exact (below_size (zX HB.out GE262.out))); (case aL => have := LMc17.out; omega); intro v266 w21 ho hb hg hat; rw [← Ny265.out] at ho; have n0_ := Aside0.mk (blk_grown (g := gb262) (o := .cells #[.int .i64 a1_0, .int .i64 a1_1, .int .i64 a1_2] 74 (0, 0)) (zB BK262.out) hg (Kd.R_away HO0.out (fun _ hk => hk.2))); have n1_ := Aside0.mk (hb); have n2_ := Aside0.mk (Kept.of_grown (S := (fun k_ => P0_ k_)) hg (by repeat (first | (with_reducible first | exact HK.out | apply Kept.alloc | apply Kept.drewN | apply Kept.drew | refine Kept.setCell ?_ (.inr GW262.out) _) | exact HK.out)) (fun k_ e_ => (HO0.out.1 k_ e_).1)); have n3_ := Aside0.mk (ho); clear BK262; clear HB; clear HK; clear HO0; have BK262 := n0_; have HB := n1_; have HK := n2_; have HO267 := n3_; clear n0_ n1_ n2_ n3_; clear ho hb hg hat)))
       go_ret
       exact ⟨_, by first | rfl | (simp [errW_none, errW_some] <;> rfl) | (simp only [← hji7]; first | rfl | (simp [errW_none, errW_some] <;> rfl)) | (simp [*, errW_none, errW_some] <;> rfl), by (with_reducible repeat (first | apply Kd.R_alloc | apply Kd.R_drewN | apply Kd.R_drew)); exact Kd.R_mono HO267.out (fun _ hk => hk.1), zX HB.out GE262.out, by repeat (first | (with_reducible first | exact HK.out | apply Kept.alloc | apply Kept.drewN | apply Kept.drew | refine Kept.setCell ?_ (.inr GW262.out) _) | exact HK.out)⟩
      ·rw [if_neg c17] at H
       exact absurd H (by simp)
    ·rw [if_neg c9] at H
     exact absurd H (by simp)
   ·rw [if_neg c8] at H
    exact absurd H (by simp)
  ·rw [if_neg c6] at H
   have c6b0 : decide (0 < (l0.length : Int)) = false := decide_eq_false c6
   have c6b1 : decide (0 < l0.length) = false := decide_eq_false (by omega)
   clear c6
   by_cases c22 : l0.length < 5864062014805
   ·rw [if_pos c22] at H
    have LMc22 := Aside0.mk c22
    clear c22
    obtain ⟨y268, hy268⟩ : ∃ y_ : List (S74), y_ = (l0 ++ [(⟨a1_0, a1_1, a1_2⟩ : S74)]) := ⟨_, rfl⟩
    replace H : (some y268) = some r := by first | (rw [hy268]; with_reducible exact H) | (have H2_ := (Option.bind_some _ _).symm.trans H; rw [hy268]; with_reducible exact H2_) | (have H2_ := (Option.bind_some _ _).symm.trans H; with_reducible exact H2_) | with_reducible exact H | (rw [hy268]; exact H) | exact H
    have Ny268 := Aside0.mk hy268
    clear hy268
    obtain rfl := Option.some.inj H
    go_enter Tryd.func89, Tryd.ntmps89
    go_wp2_with (first | ((with_reducible refine gate_dst (N := 3) rfl ?_); (try (refine gate_guard (by rfl) ?_; dsimp only)); refine box_event ?hg (N := 3) ?hd (cs := #[.int .i64 a1_0, .int .i64 a1_1, .int .i64 a1_2]) (t := 74) ?hr ?_; (case hd => rfl); (case hg => rfl); (case hr => first | (go_simp; done) | (go_simp; rfl)); intro gb262 hg w23 hbox hb; have n0_ := Aside0.mk (Kd.R_below (Kd.R_elderB (zR HO0.out) gb262 (Nat.le_of_eq hg.symm)) hb); have n1_ := Aside0.mk (Kept.below (S := (fun k_ => P0_ k_)) (by repeat (first | (with_reducible first | exact HK.out | apply Kept.alloc | apply Kept.drewN | apply Kept.drew) | exact HK.out)) hb); have n2_ := Aside0.mk (below_step (zW HB.out) hb); have n3_ := Aside0.mk (hbox); have n4_ := Aside0.mk ((by rw [hg]; exact (by first | exact HK.out.1 | exact (show Kept w _ (fun k_ => P0_ k_) from by repeat (first | (with_reducible first | exact HK.out | apply Kept.alloc | apply Kept.drewN | apply Kept.drew) | exact HK.out)).1) : w.heap.size ≤ gb262)); have n5_ := Aside0.mk ((by rw [hg]; exact (below_size (zW HB.out)) : w0.heap.size ≤ gb262)); clear HO0; clear HK; clear HB; have HO0 := n0_; have HK := n1_; have HB := n2_; have BK262 := n3_; have GW262 := n4_; have GE262 := n5_; clear n0_ n1_ n2_ n3_ n4_ n5_; clear hb hbox hg; have hcz24_0 : w23.cell? ⟨gb262, 0, none⟩ = some (.int .i64 a1_0) := (blk_cell BK262.out 0).trans rfl; have hcz24_1 : w23.cell? ⟨gb262, 1, none⟩ = some (.int .i64 a1_1) := (blk_cell BK262.out 1).trans rfl; have hcz24_2 : w23.cell? ⟨gb262, 2, none⟩ = some (.int .i64 a1_2) := (blk_cell BK262.out 2).trans rfl; have hfz24_0 := blk_frozen BK262.out 0; have hfz24_1 := blk_frozen BK262.out 1; have hfz24_2 := blk_frozen BK262.out 2; obtain ⟨Ao25, co25, eo25⟩ := Kd.R_slice HO0.out; subst eo25) | ((with_reducible refine gate_builtin (b := .append) (xs := #[.tmp 35, .tmp 37]) rfl ?_); (try (refine gate_guard (by rfl) ?_; dsimp only)); at_builtin; refine Kd.R_append k74 (w0 := w0) w0.heap.size rfl (.tmp 35) (.tmp 37) 28 74 (.agg #[(.int .i64 0), (.int .i64 0), (.int .i64 0)]) 24 rfl Tryd.underlying28 info74 rfl (by decide) (by omega) (.slice Ao25 l0.length co25) l0 (⟨a1_0, a1_1, a1_2⟩ : S74) [.int .i64 a1_0, .int .i64 a1_1, .int .i64 a1_2] (fun k_ => (P0_ k_ ∨ w.heap.size ≤ k_) ∧ k_ ≠ gb262) (fun _ => False) rfl rfl ?aP (fun _ hk => hk.elim) ?aF ?aO ?aB ?aS ?aL ?_; (case aP => exact k74_mkM _ _ _ (⟨a1_0, a1_1, a1_2⟩ : S74)); (case aB => exact (zX HB.out GE262.out)); (case aF => exact (fun k_ hk => ⟨(.inr (Nat.le_trans (by first | exact HK.out.1 | exact (show Kept w _ (fun k_ => P0_ k_) from by repeat (first | (with_reducible first | exact HK.out | apply Kept.alloc | apply Kept.drewN | apply Kept.drew | refine Kept.setCell ?_ (.inr GW262.out) _) | exact HK.out)).1) hk)), Kd.freshB (g := gb262) (o := .cells #[.int .i64 a1_0, .int .i64 a1_1, .int .i64 a1_2] 74 (0, 0)) (zB BK262.out) k_ hk⟩)); (case aO => exact (zR HO0.out)); (case aS => exact (below_size (zX HB.out GE262.out))); (case aL => have := LMc22.out; omega); intro v269 w26 ho hb hg hat; rw [← Ny268.out] at ho; have n0_ := Aside0.mk (blk_grown (g := gb262) (o := .cells #[.int .i64 a1_0, .int .i64 a1_1, .int .i64 a1_2] 74 (0, 0)) (zB BK262.out) hg (Kd.R_away HO0.out (fun _ hk => hk.2))); have n1_ := Aside0.mk (hb); have n2_ := Aside0.mk (Kept.of_grown (S := (fun k_ => P0_ k_)) hg (by repeat (first | (with_reducible first | exact HK.out | apply Kept.alloc | apply Kept.drewN | apply Kept.drew | refine Kept.setCell ?_ (.inr GW262.out) _) | exact HK.out)) (fun k_ e_ => (HO0.out.1 k_ e_).1)); have n3_ := Aside0.mk (ho); clear BK262; clear HB; clear HK; clear HO0; have BK262 := n0_; have HB := n1_; have HK := n2_; have HO270 := n3_; clear n0_ n1_ n2_ n3_; clear ho hb hg hat))
    repeat (go_quiet (first | ((with_reducible refine gate_dst (N := 3) rfl ?_); (try (refine gate_guard (by rfl) ?_; dsimp only)); refine box_event ?hg (N := 3) ?hd (cs := #[.int .i64 a1_0, .int .i64 a1_1, .int .i64 a1_2]) (t := 74) ?hr ?_; (case hd => rfl); (case hg => rfl); (case hr => first | (go_simp; done) | (go_simp; rfl)); intro gb262 hg w23 hbox hb; have n0_ := Aside0.mk (Kd.R_below (Kd.R_elderB (zR HO0.out) gb262 (Nat.le_of_eq hg.symm)) hb); have n1_ := Aside0.mk (Kept.below (S := (fun k_ => P0_ k_)) (by repeat (first | (with_reducible first | exact HK.out | apply Kept.alloc | apply Kept.drewN | apply Kept.drew) | exact HK.out)) hb); have n2_ := Aside0.mk (below_step (zW HB.out) hb); have n3_ := Aside0.mk (hbox); have n4_ := Aside0.mk ((by rw [hg]; exact (by first | exact HK.out.1 | exact (show Kept w _ (fun k_ => P0_ k_) from by repeat (first | (with_reducible first | exact HK.out | apply Kept.alloc | apply Kept.drewN | apply Kept.drew) | exact HK.out)).1) : w.heap.size ≤ gb262)); have n5_ := Aside0.mk ((by rw [hg]; exact (below_size (zW HB.out)) : w0.heap.size ≤ gb262)); clear HO0; clear HK; clear HB; have HO0 := n0_; have HK := n1_; have HB := n2_; have BK262 := n3_; have GW262 := n4_; have GE262 := n5_; clear n0_ n1_ n2_ n3_ n4_ n5_; clear hb hbox hg; have hcz24_0 : w23.cell? ⟨gb262, 0, none⟩ = some (.int .i64 a1_0) := (blk_cell BK262.out 0).trans rfl; have hcz24_1 : w23.cell? ⟨gb262, 1, none⟩ = some (.int .i64 a1_1) := (blk_cell BK262.out 1).trans rfl; have hcz24_2 : w23.cell? ⟨gb262, 2, none⟩ = some (.int .i64 a1_2) := (blk_cell BK262.out 2).trans rfl; have hfz24_0 := blk_frozen BK262.out 0; have hfz24_1 := blk_frozen BK262.out 1; have hfz24_2 := blk_frozen BK262.out 2; obtain ⟨Ao25, co25, eo25⟩ := Kd.R_slice HO0.out; subst eo25) | ((with_reducible refine gate_builtin (b := .append) (xs := #[.tmp 35, .tmp 37]) rfl ?_); (try (refine gate_guard (by rfl) ?_; dsimp only)); at_builtin; refine Kd.R_append k74 (w0 := w0) w0.heap.size rfl (.tmp 35) (.tmp 37) 28 74 (.agg #[(.int .i64 0), (.int .i64 0), (.int .i64 0)]) 24 rfl Tryd.underlying28 info74 rfl (by decide) (by omega) (.slice Ao25 l0.length co25) l0 (⟨a1_0, a1_1, a1_2⟩ : S74) [.int .i64 a1_0, .int .i64 a1_1, .int .i64 a1_2] (fun k_ => (P0_ k_ ∨ w.heap.size ≤ k_) ∧ k_ ≠ gb262) (fun _ => False) rfl rfl ?aP (fun _ hk => hk.elim) ?aF ?aO ?aB ?aS ?aL ?_; (case aP => exact k74_mkM _ _ _ (⟨a1_0, a1_1, a1_2⟩ : S74)); (case aB => exact (zX HB.out GE262.out)); (case aF => exact (fun k_ hk => ⟨(.inr (Nat.le_trans (by first | exact HK.out.1 | exact (show Kept w _ (fun k_ => P0_ k_) from by repeat (first | (with_reducible first | exact HK.out | apply Kept.alloc | apply Kept.drewN | apply Kept.drew | refine Kept.setCell ?_ (.inr GW262.out) _) | exact HK.out)).1) hk)), Kd.freshB (g := gb262) (o := .cells #[.int .i64 a1_0, .int .i64 a1_1, .int .i64 a1_2] 74 (0, 0)) (zB BK262.out) k_ hk⟩)); (case aO => exact (zR HO0.out)); (case aS => exact (below_size (zX HB.out GE262.out))); (case aL => have := LMc22.out; omega); intro v269 w26 ho hb hg hat; rw [← Ny268.out] at ho; have n0_ := Aside0.mk (blk_grown (g := gb262) (o := .cells #[.int .i64 a1_0, .int .i64 a1_1, .int .i64 a1_2] 74 (0, 0)) (zB BK262.out) hg (Kd.R_away HO0.out (fun _ hk => hk.2))); have n1_ := Aside0.mk (hb); have n2_ := Aside0.mk (Kept.of_grown (S := (fun k_ => P0_ k_)) hg (by repeat (first | (with_reducible first | exact HK.out | apply Kept.alloc | apply Kept.drewN | apply Kept.drew | refine Kept.setCell ?_ (.inr GW262.out) _) | exact HK.out)) (fun k_ e_ => (HO0.out.1 k_ e_).1)); have n3_ := Aside0.mk (ho); clear BK262; clear HB; clear HK; clear HO0; have BK262 := n0_; have HB := n1_; have HK := n2_; have HO270 := n3_; clear n0_ n1_ n2_ n3_; clear ho hb hg hat)); try go_wp2_with (first | ((with_reducible refine gate_dst (N := 3) rfl ?_); (try (refine gate_guard (by rfl) ?_; dsimp only)); refine box_event ?hg (N := 3) ?hd (cs := #[.int .i64 a1_0, .int .i64 a1_1, .int .i64 a1_2]) (t := 74) ?hr ?_; (case hd => rfl); (case hg => rfl); (case hr => first | (go_simp; done) | (go_simp; rfl)); intro gb262 hg w23 hbox hb; have n0_ := Aside0.mk (Kd.R_below (Kd.R_elderB (zR HO0.out) gb262 (Nat.le_of_eq hg.symm)) hb); have n1_ := Aside0.mk (Kept.below (S := (fun k_ => P0_ k_)) (by repeat (first | (with_reducible first | exact HK.out | apply Kept.alloc | apply Kept.drewN | apply Kept.drew) | exact HK.out)) hb); have n2_ := Aside0.mk (below_step (zW HB.out) hb); have n3_ := Aside0.mk (hbox); have n4_ := Aside0.mk ((by rw [hg]; exact (by first | exact HK.out.1 | exact (show Kept w _ (fun k_ => P0_ k_) from by repeat (first | (with_reducible first | exact HK.out | apply Kept.alloc | apply Kept.drewN | apply Kept.drew) | exact HK.out)).1) : w.heap.size ≤ gb262)); have n5_ := Aside0.mk ((by rw [hg]; exact (below_size (zW HB.out)) : w0.heap.size ≤ gb262)); clear HO0; clear HK; clear HB; have HO0 := n0_; have HK := n1_; have HB := n2_; have BK262 := n3_; have GW262 := n4_; have GE262 := n5_; clear n0_ n1_ n2_ n3_ n4_ n5_; clear hb hbox hg; have hcz24_0 : w23.cell? ⟨gb262, 0, none⟩ = some (.int .i64 a1_0) := (blk_cell BK262.out 0).trans rfl; have hcz24_1 : w23.cell? ⟨gb262, 1, none⟩ = some (.int .i64 a1_1) := (blk_cell BK262.out 1).trans rfl; have hcz24_2 : w23.cell? ⟨gb262, 2, none⟩ = some (.int .i64 a1_2) := (blk_cell BK262.out 2).trans rfl; have hfz24_0 := blk_frozen BK262.out 0; have hfz24_1 := blk_frozen BK262.out 1; have hfz24_2 := blk_frozen BK262.out 2; obtain ⟨Ao25, co25, eo25⟩ := Kd.R_slice HO0.out; subst eo25) | ((with_reducible refine gate_builtin (b := .append) (xs := #[.tmp 35, .tmp 37]) rfl ?_); (try (refine gate_guard (by rfl) ?_; dsimp only)); at_builtin; refine Kd.R_append k74 (w0 := w0) w0.heap.size rfl (.tmp 35) (.tmp 37) 28 74 (.agg #[(.int .i64 0), (.int .i64 0), (.int .i64 0)]) 24 rfl Tryd.underlying28 info74 rfl (by decide) (by omega) (.slice Ao25 l0.length co25) l0 (⟨a1_0, a1_1, a1_2⟩ : S74) [.int .i64 a1_0, .int .i64 a1_1, .int .i64 a1_2] (fun k_ => (P0_ k_ ∨ w.heap.size ≤ k_) ∧ k_ ≠ gb262) (fun _ => False) rfl rfl ?aP (fun _ hk => hk.elim) ?aF ?aO ?aB ?aS ?aL ?_; (case aP => exact k74_mkM _ _ _ (⟨a1_0, a1_1, a1_2⟩ : S74)); (case aB => exact (zX HB.out GE262.out)); (case aF => exact (fun k_ hk => ⟨(.inr (Nat.le_trans (by first | exact HK.out.1 | exact (show Kept w _ (fun k_ => P0_ k_) from by repeat (first | (with_reducible first | exact HK.out | apply Kept.alloc | apply Kept.drewN | apply Kept.drew | refine Kept.setCell ?_ (.inr GW262.out) _) | exact HK.out)).1) hk)), Kd.freshB (g := gb262) (o := .cells #[.int .i64 a1_0, .int .i64 a1_1, .int .i64 a1_2] 74 (0, 0)) (zB BK262.out) k_ hk⟩)); (case aO => exact (zR HO0.out)); (case aS => exact (below_size (zX HB.out GE262.out))); (case aL => have := LMc22.out; omega); intro v269 w26 ho hb hg hat; rw [← Ny268.out] at ho; have n0_ := Aside0.mk (blk_grown (g := gb262) (o := .cells #[.int .i64 a1_0, .int .i64 a1_1, .int .i64 a1_2] 74 (0, 0)) (zB BK262.out) hg (Kd.R_away HO0.out (fun _ hk => hk.2))); have n1_ := Aside0.mk (hb); have n2_ := Aside0.mk (Kept.of_grown (S := (fun k_ => P0_ k_)) hg (by repeat (first | (with_reducible first | exact HK.out | apply Kept.alloc | apply Kept.drewN | apply Kept.drew | refine Kept.setCell ?_ (.inr GW262.out) _) | exact HK.out)) (fun k_ e_ => (HO0.out.1 k_ e_).1)); have n3_ := Aside0.mk (ho); clear BK262; clear HB; clear HK; clear HO0; have BK262 := n0_; have HB := n1_; have HK := n2_; have HO270 := n3_; clear n0_ n1_ n2_ n3_; clear ho hb hg hat)))
    go_ret
    exact ⟨_, by first | rfl | (simp [errW_none, errW_some] <;> rfl) | (simp [*, errW_none, errW_some] <;> rfl), by (with_reducible repeat (first | apply Kd.R_alloc | apply Kd.R_drewN | apply Kd.R_drew)); exact Kd.R_mono HO270.out (fun _ hk => hk.1), zX HB.out GE262.out, by repeat (first | (with_reducible first | exact HK.out | apply Kept.alloc | apply Kept.drewN | apply Kept.drew | refine Kept.setCell ?_ (.inr GW262.out) _) | exact HK.out)⟩
   ·rw [if_neg c22] at H
    exact absurd H (by simp)

/-! ### aircheckref15_part: function 88 -/
def aircheckref15_part.l0 : Nat → List (S74) → List (S74) → Int → Int → Int → Option ((List (S74)))
 | 0, _, _, _, _, _ => none
 | k + 1, x0, x1, x2, x3, x9 => if x9 < (x1.length : Int) then (if 0 ≤ x9 then ((aircheckref15_add.f x0 (mx x2 ((rd_T74 x1 x9).f0)) (mn x3 ((rd_T74 x1 x9).f1)) ((rd_T74 x1 x9).f2)).bind fun t274 => (aircheckref15_part.l0 k t274 x1 x2 x3 (wrap64 (x9 + 1)))) else (none)) else (some x0)
def aircheckref15_part.f (k : Nat) (l0 : List (S74)) (l1 : List (S74)) (a2 : Int) (a3 : Int) : Option ((List (S74))) := aircheckref15_part.l0 k l0 l1 a2 a3 0
def aircheckref15_part.T4 : Bool × List (List Nat × List Nat) := (true, [([], []), ([], []), ([], []), ([], []), ([2, 3], [2, 3]), ([4], [4]), ([5], [5]), ([1, 6], [1, 6]), ([], []), ([], []), ([], []), ([9, 10], [9, 10]), ([11], [11]), ([12], [12]), ([8, 13], [8, 13]), ([], []), ([], []), ([15, 16], [15, 16]), ([17], [17]), ([18], [18]), ([7, 14, 19], [7, 14, 19]), ([0, 20], [0, 20]), ([21, 21, 0, 1, 2, 3, 4, 5, 6, 7, 8, 9, 10, 11, 12, 13, 14, 15, 16, 17, 18, 19, 20, 21], [0, 21])])
def aircheckref15_part.B4 : List Nat := [0, 0, 0, 0, 12, 28, 60, 126, 0, 0, 0, 1536, 3584, 7680, 16128, 0, 0, 98304, 229376, 491520, 1048574, 2097151, 4194303]
theorem aircheckref15_part.tab4 : rtab .any (opsOf Tryd.f88 4) = aircheckref15_part.T4 := by kernel_rfl
theorem aircheckref15_part.bits4 : waitsOk aircheckref15_part.T4.2 aircheckref15_part.B4 = true := by kernel_rfl
set_option maxHeartbeats 8000000 in
set_option maxRecDepth 100000 in
theorem aircheckref15_part.calls (k : Nat) (P0_ : Nat → Prop) (u9000_ : Value) (l0 : List (S74)) (A1 : Option Addr) (c1 : Nat) (l1 : List (S74)) (a2 : Int) (a3 : Int) (r : List (S74)) (w0 w : World) (hB : Below w0.heap.size w0 w) (ho0 : Kd.R k74 74 w w0.heap.size P0_ u9000_ l0) (hr1 : ∀ W_, Kept w W_ (fun k_ => P0_ k_) → Kd.C k74 W_ A1 l1.length l1) (hc1 : l1.length ≤ c1) (h : aircheckref15_part.f k l0 l1 a2 a3 = some r) :
  Calls Tryd.prog 88 #[u9000_, .slice A1 l1.length c1, .int .i64 a2, .int .i64 a3] w fun e w' => ∃ v0_ : Value, e = .returned (v0_) ∧ Kd.R k74 74 w' w0.heap.size (fun k_ => (P0_ k_ ∨ w.heap.size ≤ k_)) v0_ r ∧ Below w0.heap.size w0 w' ∧ Kept w w' (fun k_ => P0_ k_) := by
 have hu74 := Tryd.underlying74
 have HO0 := Aside0.mk (show Kd.R k74 74 w w0.heap.size (fun k_ => (P0_ k_ ∨ w.heap.size ≤ k_)) u9000_ l0 from Kd.R_mono ho0 (fun k_ hk => (.inl hk)))
 have HR1 := Aside0.mk hr1
 have HC1 := Aside0.mk hc1
 clear hr1 hc1
 have HK := Aside0.mk (Kept.refl w (fun k_ => P0_ k_))
 have HW0 := Aside0.mk hB.size
 have HB := Aside0.mk hB
 clear hB
 have H : (aircheckref15_part.l0 k l0 l1 a2 a3 0) = some r := h
 clear h
 have H' := Aside0.mk H
 clear H
 go_enter Tryd.func88, Tryd.ntmps88
 go_wp2
 go_loopg [0, 9] k (fun kq v0 v9 w' => ∃ (x0_1 : List (S74)) (x9_1 : Int), v9 = .int .i64 x9_1 ∧ Aside0 (aircheckref15_part.l0 kq x0_1 l1 a2 a3 x9_1 = some r) ∧ Aside0 (kq ≤ k) ∧ Aside0 (Kd.R k74 74 w' w0.heap.size (fun k_ => (P0_ k_ ∨ w.heap.size ≤ k_)) v0 x0_1) ∧ Aside0 (Kept w w' (fun k_ => P0_ k_)) ∧ Aside0 (Below w0.heap.size w0 w'))
 case atStart => exact ⟨(l0), (0), zE, H', ⟨Nat.le_refl _⟩, ⟨zR HO0.out⟩, ⟨by repeat (first | (with_reducible first | exact HK.out | apply Kept.alloc | apply Kept.drewN | apply Kept.drew) | exact HK.out)⟩, ⟨zW HB.out⟩⟩
 case round =>
  clear H'
  (try clear c1); (try clear p2)
  obtain ⟨x0_1, x9_1, rfl, HA, HK1, HO_0, HK, HB⟩ := hrel
  cases gk with
  | zero => exact absurd HA.out (by simp [aircheckref15_part.l0])
  | succ k1 =>
   have H := HA.out
   clear HA
   simp only [aircheckref15_part.l0] at H
   by_cases c5 : x9_1 < (l1.length : Int)
   ·rw [if_pos c5] at H
    have c5b0 : decide (x9_1 < (l1.length : Int)) = true := decide_eq_true c5
    clear c5
    by_cases c6 : 0 ≤ x9_1
    ·rw [if_pos c6] at H
     have c6b0 : decide (0 ≤ x9_1) = true := decide_eq_true c6
     clear c6
     obtain ⟨ji7, hji7⟩ : ∃ j_ : Int, (mx a2 ((rd_T74 l1 x9_1).f0)) = j_ := ⟨_, rfl⟩
     replace H : ((aircheckref15_add.f x0_1 (ji7) (mn a3 ((rd_T74 l1 x9_1).f1)) ((rd_T74 l1 x9_1).f2)).bind fun t274 => (aircheckref15_part.l0 k1 t274 l1 a2 a3 (wrap64 (x9_1 + 1)))) = some r := by first | (rw [hji7] at H; exact H) | (simp only [hji7] at H ⊢; exact H)
     have hji7_ : (if a2 < ((rd_T74 l1 x9_1).f0) then ((rd_T74 l1 x9_1).f0) else a2) = ji7 := hji7
     obtain ⟨ji8, hji8⟩ : ∃ j_ : Int, (mn a3 ((rd_T74 l1 x9_1).f1)) = j_ := ⟨_, rfl⟩
     replace H : ((aircheckref15_add.f x0_1 (ji7) (ji8) ((rd_T74 l1 x9_1).f2)).bind fun t274 => (aircheckref15_part.l0 k1 t274 l1 a2 a3 (wrap64 (x9_1 + 1)))) = some r := by first | (rw [hji8] at H; exact H) | (simp only [hji8] at H ⊢; exact H)
     have hji8_ : (if ((rd_T74 l1 x9_1).f1) < a3 then ((rd_T74 l1 x9_1).f1) else a3) = ji8 := hji8
     replace H := Option.bind_eq_some_iff.mp H
     obtain ⟨t274, A90, H⟩ := H
     have A9 := Aside0.mk A90
     clear A90
     have H' := Aside0.mk H
     clear H
     try go_wp2
     have n0_ := Aside0.mk (Kd.R_drew HO_0.out)
     have n1_ := Aside0.mk (Kept.drew HK.out)
     have n2_ := Aside0.mk (below_drew1 HB.out)
     clear HO_0
     clear HK
     clear HB
     have HO_0 := n0_
     have HK := n1_
     have HB := n2_
     clear n0_ n1_ n2_
     have p271 : 0 ≤ (x9_1 : Int) := of_decide_eq_true zA
     have q271 : x9_1 < (l1.length : Int) := of_decide_eq_true zA
     obtain ⟨ad271, e271, hx271_0, hx271_1, hx271_2⟩ := at_T74 (Kd.C_kept_now HR1.out HK.out) x9_1 p271 q271
     have hw271_2 := hx271_2
     have hw271_1 := hx271_1
     have hw271_0 := hx271_0
     cases e271
     replace p271 := eq_true p271
     replace q271 := eq_true q271
     have p272 : 0 ≤ (x9_1 : Int) := of_decide_eq_true zA
     have q272 : x9_1 < (l1.length : Int) := of_decide_eq_true zA
     obtain ⟨ad272, e272, hx272_0, hx272_1, hx272_2⟩ := at_T74 (Kd.C_kept_now HR1.out HK.out) x9_1 p272 q272
     have hw272_2 := hx272_2
     have hw272_1 := hx272_1
     have hw272_0 := hx272_0
     obtain rfl : ad271 = ad272 := (by injection e272)
     replace p272 := eq_true p272
     replace q272 := eq_true q272
     have p273 : 0 ≤ (x9_1 : Int) := of_decide_eq_true zA
     have q273 : x9_1 < (l1.length : Int) := of_decide_eq_true zA
     obtain ⟨ad273, e273, hx273_0, hx273_1, hx273_2⟩ := at_T74 (Kd.C_kept_now HR1.out HK.out) x9_1 p273 q273
     have hw273_2 := hx273_2
     have hw273_1 := hx273_1
     have hw273_0 := hx273_0
     obtain rfl : ad271 = ad273 := (by injection e273)
     replace p273 := eq_true p273
     replace q273 := eq_true q273
     obtain ⟨Ao11, co11, eo11⟩ := Kd.R_slice HO_0.out
     (first | subst eo11 | (injection eo11 with f1_ f2_ f3_; have f4_ := f1_.symm; have f5_ := f3_.symm; clear f1_ f2_ f3_; subst f4_; subst f5_))
     refine start_ (n := 23) (S := fun w' => w'.cell? (ad271.add ((x9_1).toNat * 3)) = some (.int .i64 ((rd_T74 l1 x9_1).f0)) ∧ w'.cell? ⟨(ad271.add ((x9_1).toNat * 3)).block, (ad271.add ((x9_1).toNat * 3)).off + 1, none⟩ = some (.int .i64 ((rd_T74 l1 x9_1).f1)) ∧ w'.cell? ⟨(ad271.add ((x9_1).toNat * 3)).block, (ad271.add ((x9_1).toNat * 3)).off + 2, none⟩ = some (.int .i64 ((rd_T74 l1 x9_1).f2)) ∧ w'.cell? (ad271.add ((x9_1).toNat * 3)) = some (.int .i64 ((rd_T74 l1 x9_1).f0)) ∧ w'.cell? ⟨(ad271.add ((x9_1).toNat * 3)).block, (ad271.add ((x9_1).toNat * 3)).off + 1, none⟩ = some (.int .i64 ((rd_T74 l1 x9_1).f1)) ∧ w'.cell? ⟨(ad271.add ((x9_1).toNat * 3)).block, (ad271.add ((x9_1).toNat * 3)).off + 2, none⟩ = some (.int .i64 ((rd_T74 l1 x9_1).f2)) ∧ w'.cell? (ad271.add ((x9_1).toNat * 3)) = some (.int .i64 ((rd_T74 l1 x9_1).f0)) ∧ w'.cell? ⟨(ad271.add ((x9_1).toNat * 3)).block, (ad271.add ((x9_1).toNat * 3)).off + 1, none⟩ = some (.int .i64 ((rd_T74 l1 x9_1).f1)) ∧ w'.cell? ⟨(ad271.add ((x9_1).toNat * 3)).block, (ad271.add ((x9_1).toNat * 3)).off + 2, none⟩ = some (.int .i64 ((rd_T74 l1 x9_1).f2))) (ds := [21]) (bz 23 0) (by kernel_rfl) rfl rfl ⟨hx271_0, hx271_1, hx271_2, hx272_0, hx272_1, hx272_2, hx273_0, hx273_1, hx273_2⟩ (fun hHeld => ?_); refine with_tabW aircheckref15_part.tab4 aircheckref15_part.bits4 (fun HT_ HW_ => ?_)
     generalize wr.drew = w10 at HO_0 HK HB hx271_0 hx271_1 hx271_2 hx272_0 hx272_1 hx272_2 hx273_0 hx273_1 hx273_2 hHeld ⊢
     refine zP 0 (some 16) (bz 23 1) HT_ ?_
     refine zP 1 (some 17) (bz 23 3) HT_ ?_
     refine zP 2 (some 18) (bz 23 7) HT_ ?_
     refine zP 3 (some 19) (bz 23 15) HT_ ?_
     refine zP 4 (some 20) (bz 23 31) HT_ ?_
     refine zP 5 (some 21) (bz 23 63) HT_ ?_
     refine zP 8 (some 24) (bz 23 319) HT_ ?_
     refine zP 9 (some 25) (bz 23 831) HT_ ?_
     refine zP 10 (some 26) (bz 23 1855) HT_ ?_
     refine zP 11 (some 27) (bz 23 3903) HT_ ?_
     refine zP 12 (some 28) (bz 23 7999) HT_ ?_
     refine zP 15 (some 31) (bz 23 40767) HT_ ?_
     refine zP 16 (some 32) (bz 23 106303) HT_ ?_
     refine zP 17 (some 33) (bz 23 237375) HT_ ?_
     refine zP 18 (some 34) (bz 23 499519) HT_ ?_
     refine zT 6 (some 22) (bz 23 499583) HT_ HW_ hHeld (v := ?_) ?_ ?_
     rotate_left
     ·rintro w' ⟨s0, s1, s2, s3, s4, s5, s6, s7, s8⟩; go_simp; with_reducible rfl
     refine zP 7 (some 23) (bz 23 499711) HT_ ?_
     refine zT 13 (some 29) (bz 23 507903) HT_ HW_ hHeld (v := ?_) ?_ ?_
     rotate_left
     ·rintro w' ⟨s0, s1, s2, s3, s4, s5, s6, s7, s8⟩; go_simp; with_reducible rfl
     refine zP 14 (some 30) (bz 23 524287) HT_ ?_
     refine zT 19 (some 35) (bz 23 1048575) HT_ HW_ hHeld (v := ?_) ?_ ?_
     rotate_left
     ·rintro w' ⟨s0, s1, s2, s3, s4, s5, s6, s7, s8⟩; go_simp; with_reducible rfl
     refine zP 20 (some 36) (bz 23 2097151) HT_ ?_
     refine last_ (i := 21) (N := some 37) (bz 23 4194303) rfl rfl (one_of HT_.out (by kernel_rfl)) (by decide) (fun K hK => ?_)
     refine goes_ Tryd.func89 (by kernel_rfl) rfl #[.slice Ao11 x0_1.length co11, .agg #[.int .i64 ji7, .int .i64 ji8, .int .i64 ((rd_T74 l1 x9_1).f2)]] (by rfl) rfl rfl (by (try simp only [List.map_toArray, List.map_cons, List.map_nil]); first | done | (simp only [hji7, hji8]; rfl) | rfl | (simp only [List.length_drop, List.length_take]; rfl)) ?_
     with_reducible refine (aircheckref15_add.calls (fun k_ => some k_ = (.slice Ao11 x0_1.length co11 : Value).ownBlock) (.slice Ao11 x0_1.length co11) x0_1 ji7 ji8 ((rd_T74 l1 x9_1).f2) t274 w0 _ ?side1 ?side2 A9.out).mono ?_
     (case side1 => repeat (first | (with_reducible first | exact HB.out | apply below_alloc | apply pw_below_drewN | apply below_drew1) | exact HB.out))
     (case side2 => exact Kd.R_tight rfl HO_0.out)
     rintro e w12 ⟨v275, rfl, ho0, hb, hkp⟩
     refine ⟨_, rfl, ?_⟩
     have n0_ := Aside0.mk (Kd.R_mono (ok' := fun k_ => (P0_ k_ ∨ w.heap.size ≤ k_)) ho0 (fun k_ hk_ => Or.elim hk_ (fun hs_ => (HO_0.out.1 k_ (hs_).symm)) (fun hn_ => (.inr (Nat.le_trans (by first | exact HK.out.1 | exact (show Kept w _ (fun k_ => P0_ k_) from by repeat (first | (with_reducible first | exact HK.out | apply Kept.alloc | apply Kept.drewN | apply Kept.drew) | exact HK.out)).1) hn_)))))
     have n1_ := Aside0.mk (Kept.then_ (S := (fun k_ => P0_ k_)) (by repeat (first | (with_reducible first | exact HK.out | apply Kept.alloc | apply Kept.drewN | apply Kept.drew) | exact HK.out)) hkp (fun k_ hs_ => (fun e_ => (HO_0.out.1 k_ e_.symm)) hs_))
     have n2_ := Aside0.mk (hb)
     clear HK
     clear HB
     clear HO_0
     have HO276 := n0_
     have HK := n1_
     have HB := n2_
     clear n0_ n1_ n2_
     (try clear hb)
     (try clear hkp)
     (try clear ho0)
     refine hK.out _ _ ?_
     clear hK K
     refine norm_ (a' := ?_) ?_ ?_
     rotate_left
     ·show Act.put _ (some 37) _ = _
      simp only [Act.put, List.setIfInBounds_toArray, List.set_cons_zero, List.set_cons_succ, i64_w, i32_w]
      rfl
     refine zP 22 (some 0) (bz 23 8388607) HT_ ?_
     refine done_ (done_of HT_.out (by kernel_rfl)) ?_
     try go_wp2
     go_roundg k1
     case measure => have := HK1.out; omega
     case rel => exact ⟨(t274), (wrap64 (x9_1 + 1)), zE, H', ⟨by have := HK1.out; omega⟩, ⟨zR HO276.out⟩, ⟨by repeat (first | (with_reducible first | exact HK.out | apply Kept.alloc | apply Kept.drewN | apply Kept.drew) | exact HK.out)⟩, ⟨zW HB.out⟩⟩
    ·rw [if_neg c6] at H
     exact absurd H (by simp)
   ·rw [if_neg c5] at H
    have c5b0 : decide (x9_1 < (l1.length : Int)) = false := decide_eq_false c5
    clear c5
    obtain rfl := Option.some.inj H
    go_wp2
    go_ret
    exact ⟨_, by first | rfl | (simp [errW_none, errW_some] <;> rfl) | (simp [*, errW_none, errW_some] <;> rfl), zR HO_0.out, zW HB.out, by repeat (first | (with_reducible first | exact HK.out | apply Kept.alloc | apply Kept.drewN | apply Kept.drew) | exact HK.out)⟩

end Go.Proofs.YtglcdgalimgkeaaDoor.PJB
