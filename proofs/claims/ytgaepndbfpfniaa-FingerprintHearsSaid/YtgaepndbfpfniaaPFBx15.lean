-- PRINTED by print.py (a twelfth state) out of the translation. Not trusted: Lean checks it.
import Derived.Test.YtgaepndbfpfniaaPFBx0
import Derived.Test.YtgaepndbfpfniaaPFBx1
import Derived.Test.YtgaepndbfpfniaaPFBx3
namespace Go.Proofs.Ytgaepndbfpfniaa.PFB
open Go.RowKit Go.Proofs.YtgaepndbfpfniaaW.PrintWords Go.Proofs.YtgaepndbfpfniaaW.PrintLast Go.Proofs.YtgaepndbfpfniaaW.PrintMore
attribute [local go_sem] max2_int min2_int max_two min_two max_three min_three max_four min_four   -- for this text's walks alone
set_option linter.unusedVariables false
set_option linter.unusedSimpArgs false

/-! ### fingerprint_Bound: function 31 -/
mutual
def fingerprint_Bound.j0 : Nat → List Int → List Int → List (List Int) → Bool → Option (Int × Bool)
  | 0, _, _, _, _ => none
  | k + 1, x0, x1, x2, x28 => if x28 = true then (some (0, false)) else (fingerprint_Bound.l0 k x0 x1 x2 x2 (x2.length : Int) 0)
def fingerprint_Bound.l0 : Nat → List Int → List Int → List (List Int) → List (List Int) → Int → Int → Option (Int × Bool)
  | 0, _, _, _, _, _, _ => none
  | k + 1, x0, x1, x2, x29, x30, x31 => if x31 < x30 then (if 0 ≤ x31 then (if x31 < (x29.length : Int) then (if ((rd_L1 x29 x31).length : Int) = (wrap64 ((x1.length : Int) + 1)) then (fingerprint_Bound.l1 k x0 x1 x2 x31 (rd_L1 x29 x31) x29 x30 x31 (rd_L1 x29 x31) ((rd_L1 x29 x31).length : Int) 0) else (some (0, false))) else (none)) else (none)) else (if 0 ≤ (x0.length : Int) then (if (x0.length : Int) < (x2.length : Int) then ((slices_Min_int_int.f (rd_L1 x2 (x0.length : Int))).bind fun t163 => (some (t163, true))) else (none)) else (none))
def fingerprint_Bound.l1 : Nat → List Int → List Int → List (List Int) → Int → List Int → List (List Int) → Int → Int → List Int → Int → Int → Option (Int × Bool)
  | 0, _, _, _, _, _, _, _, _, _, _, _ => none
  | k + 1, x0, x1, x2, x8, x9, x29, x30, x31, x42, x43, x44 => if x44 < x43 then (if 0 ≤ x44 then (if x44 < (x42.length : Int) then (if x8 = 0 then (fingerprint_Bound.j3 k x0 x1 x2 x8 x9 x44 (rd x42 x44) 0 x29 x30 x31 x42 x43 x44) else (fingerprint_Bound.j3 k x0 x1 x2 x8 x9 x44 (rd x42 x44) 1000 x29 x30 x31 x42 x43 x44)) else (none)) else (none)) else (fingerprint_Bound.l0 k x0 x1 x2 x29 x30 (wrap64 (x31 + 1)))
def fingerprint_Bound.j3 : Nat → List Int → List Int → List (List Int) → Int → List Int → Int → Int → Int → List (List Int) → Int → Int → List Int → Int → Int → Option (Int × Bool)
  | 0, _, _, _, _, _, _, _, _, _, _, _, _, _, _ => none
  | k + 1, x0, x1, x2, x8, x9, x10, x11, x12, x29, x30, x31, x42, x43, x44 => if x8 > 0 then (if 0 ≤ (wrap64 (x8 - 1)) then (if (wrap64 (x8 - 1)) < (x2.length : Int) then (if 0 ≤ x10 then (if x10 < ((rd_L1 x2 (wrap64 (x8 - 1))).length : Int) then (fingerprint_Bound.j4 k x0 x1 x2 x8 x9 x10 x11 (mn x12 (wrap64 ((rd (rd_L1 x2 (wrap64 (x8 - 1))) x10) + 1))) x29 x30 x31 x42 x43 x44) else (none)) else (none)) else (none)) else (none)) else (fingerprint_Bound.j4 k x0 x1 x2 x8 x9 x10 x11 x12 x29 x30 x31 x42 x43 x44)
def fingerprint_Bound.j4 : Nat → List Int → List Int → List (List Int) → Int → List Int → Int → Int → Int → List (List Int) → Int → Int → List Int → Int → Int → Option (Int × Bool)
  | 0, _, _, _, _, _, _, _, _, _, _, _, _, _, _ => none
  | k + 1, x0, x1, x2, x8, x9, x10, x11, x12, x29, x30, x31, x42, x43, x44 => if x10 > 0 then (if 0 ≤ (wrap64 (x10 - 1)) then (if (wrap64 (x10 - 1)) < (x9.length : Int) then (fingerprint_Bound.j5 k x0 x1 x2 x8 x9 x10 x11 (mn x12 (wrap64 ((rd x9 (wrap64 (x10 - 1))) + 1))) x29 x30 x31 x42 x43 x44) else (none)) else (none)) else (fingerprint_Bound.j5 k x0 x1 x2 x8 x9 x10 x11 x12 x29 x30 x31 x42 x43 x44)
def fingerprint_Bound.j5 : Nat → List Int → List Int → List (List Int) → Int → List Int → Int → Int → Int → List (List Int) → Int → Int → List Int → Int → Int → Option (Int × Bool)
  | 0, _, _, _, _, _, _, _, _, _, _, _, _, _, _ => none
  | k + 1, x0, x1, x2, x8, x9, x10, x11, x12, x29, x30, x31, x42, x43, x44 => if x8 > 0 then (if x10 > 0 then (if 0 ≤ (wrap64 (x8 - 1)) then (if (wrap64 (x8 - 1)) < (x0.length : Int) then (if 0 ≤ (wrap64 (x10 - 1)) then (if (wrap64 (x10 - 1)) < (x1.length : Int) then (fingerprint_Bound.j6 k x0 x1 x2 x8 x9 x10 x11 x12 x29 x30 x31 x42 x43 x44 ((rd x0 (wrap64 (x8 - 1))) == (rd x1 (wrap64 (x10 - 1))))) else (none)) else (none)) else (none)) else (none)) else (fingerprint_Bound.j6 k x0 x1 x2 x8 x9 x10 x11 x12 x29 x30 x31 x42 x43 x44 false)) else (fingerprint_Bound.j6 k x0 x1 x2 x8 x9 x10 x11 x12 x29 x30 x31 x42 x43 x44 false)
def fingerprint_Bound.j6 : Nat → List Int → List Int → List (List Int) → Int → List Int → Int → Int → Int → List (List Int) → Int → Int → List Int → Int → Int → Bool → Option (Int × Bool)
  | 0, _, _, _, _, _, _, _, _, _, _, _, _, _, _, _ => none
  | k + 1, x0, x1, x2, x8, x9, x10, x11, x12, x29, x30, x31, x42, x43, x44, x92 => if x92 = true then (if 0 ≤ (wrap64 (x8 - 1)) then (if (wrap64 (x8 - 1)) < (x2.length : Int) then (if 0 ≤ (wrap64 (x10 - 1)) then (if (wrap64 (x10 - 1)) < ((rd_L1 x2 (wrap64 (x8 - 1))).length : Int) then (if x11 < (-1000) then (some (0, false)) else (if x11 > (mn x12 (rd (rd_L1 x2 (wrap64 (x8 - 1))) (wrap64 (x10 - 1)))) then (some (0, false)) else (fingerprint_Bound.l1 k x0 x1 x2 x8 x9 x29 x30 x31 x42 x43 (wrap64 (x44 + 1))))) else (none)) else (none)) else (none)) else (none)) else (if x8 > 0 then (fingerprint_Bound.j7 k x0 x1 x2 x8 x9 x10 x11 x12 x29 x30 x31 x42 x43 x44 (decide (x10 > 0))) else (fingerprint_Bound.j7 k x0 x1 x2 x8 x9 x10 x11 x12 x29 x30 x31 x42 x43 x44 false))
def fingerprint_Bound.j7 : Nat → List Int → List Int → List (List Int) → Int → List Int → Int → Int → Int → List (List Int) → Int → Int → List Int → Int → Int → Bool → Option (Int × Bool)
  | 0, _, _, _, _, _, _, _, _, _, _, _, _, _, _, _ => none
  | k + 1, x0, x1, x2, x8, x9, x10, x11, x12, x29, x30, x31, x42, x43, x44, x109 => if x109 = true then (if 0 ≤ (wrap64 (x8 - 1)) then (if (wrap64 (x8 - 1)) < (x2.length : Int) then (if 0 ≤ (wrap64 (x10 - 1)) then (if (wrap64 (x10 - 1)) < ((rd_L1 x2 (wrap64 (x8 - 1))).length : Int) then (if x11 < (-1000) then (some (0, false)) else (if x11 > (mn x12 (wrap64 ((rd (rd_L1 x2 (wrap64 (x8 - 1))) (wrap64 (x10 - 1))) + 1))) then (some (0, false)) else (fingerprint_Bound.l1 k x0 x1 x2 x8 x9 x29 x30 x31 x42 x43 (wrap64 (x44 + 1))))) else (none)) else (none)) else (none)) else (none)) else (if x11 < (-1000) then (some (0, false)) else (if x11 > x12 then (some (0, false)) else (fingerprint_Bound.l1 k x0 x1 x2 x8 x9 x29 x30 x31 x42 x43 (wrap64 (x44 + 1)))))
end
def fingerprint_Bound.f (k : Nat) (l0 : List Int) (l1 : List Int) (l2 : List (List Int)) : Option (Int × Bool) := (fingerprint_Heard.f l0).bind fun t160 => (if t160 = true then ((fingerprint_isPrint.f l1).bind fun t161 => (if t161 = true then (fingerprint_Bound.j0 k l0 l1 l2 ((l2.length : Int) != (wrap64 ((l0.length : Int) + 1)))) else (fingerprint_Bound.j0 k l0 l1 l2 true))) else (fingerprint_Bound.j0 k l0 l1 l2 true))
theorem fingerprint_Bound.mono_l : ∀ k, (∀ y0 y1 y2 y3, LeO (fingerprint_Bound.j0 k y0 y1 y2 y3) (fingerprint_Bound.j0 (k + 1) y0 y1 y2 y3)) ∧ (∀ y0 y1 y2 y3 y4 y5, LeO (fingerprint_Bound.l0 k y0 y1 y2 y3 y4 y5) (fingerprint_Bound.l0 (k + 1) y0 y1 y2 y3 y4 y5)) ∧ (∀ y0 y1 y2 y3 y4 y5 y6 y7 y8 y9 y10, LeO (fingerprint_Bound.l1 k y0 y1 y2 y3 y4 y5 y6 y7 y8 y9 y10) (fingerprint_Bound.l1 (k + 1) y0 y1 y2 y3 y4 y5 y6 y7 y8 y9 y10)) ∧ (∀ y0 y1 y2 y3 y4 y5 y6 y7 y8 y9 y10 y11 y12 y13, LeO (fingerprint_Bound.j3 k y0 y1 y2 y3 y4 y5 y6 y7 y8 y9 y10 y11 y12 y13) (fingerprint_Bound.j3 (k + 1) y0 y1 y2 y3 y4 y5 y6 y7 y8 y9 y10 y11 y12 y13)) ∧ (∀ y0 y1 y2 y3 y4 y5 y6 y7 y8 y9 y10 y11 y12 y13, LeO (fingerprint_Bound.j4 k y0 y1 y2 y3 y4 y5 y6 y7 y8 y9 y10 y11 y12 y13) (fingerprint_Bound.j4 (k + 1) y0 y1 y2 y3 y4 y5 y6 y7 y8 y9 y10 y11 y12 y13)) ∧ (∀ y0 y1 y2 y3 y4 y5 y6 y7 y8 y9 y10 y11 y12 y13, LeO (fingerprint_Bound.j5 k y0 y1 y2 y3 y4 y5 y6 y7 y8 y9 y10 y11 y12 y13) (fingerprint_Bound.j5 (k + 1) y0 y1 y2 y3 y4 y5 y6 y7 y8 y9 y10 y11 y12 y13)) ∧ (∀ y0 y1 y2 y3 y4 y5 y6 y7 y8 y9 y10 y11 y12 y13 y14, LeO (fingerprint_Bound.j6 k y0 y1 y2 y3 y4 y5 y6 y7 y8 y9 y10 y11 y12 y13 y14) (fingerprint_Bound.j6 (k + 1) y0 y1 y2 y3 y4 y5 y6 y7 y8 y9 y10 y11 y12 y13 y14)) ∧ (∀ y0 y1 y2 y3 y4 y5 y6 y7 y8 y9 y10 y11 y12 y13 y14, LeO (fingerprint_Bound.j7 k y0 y1 y2 y3 y4 y5 y6 y7 y8 y9 y10 y11 y12 y13 y14) (fingerprint_Bound.j7 (k + 1) y0 y1 y2 y3 y4 y5 y6 y7 y8 y9 y10 y11 y12 y13 y14))
  | 0 => ⟨fun _ _ _ _ r h => by simp [fingerprint_Bound.j0] at h, fun _ _ _ _ _ _ r h => by simp [fingerprint_Bound.l0] at h, fun _ _ _ _ _ _ _ _ _ _ _ r h => by simp [fingerprint_Bound.l1] at h, fun _ _ _ _ _ _ _ _ _ _ _ _ _ _ r h => by simp [fingerprint_Bound.j3] at h, fun _ _ _ _ _ _ _ _ _ _ _ _ _ _ r h => by simp [fingerprint_Bound.j4] at h, fun _ _ _ _ _ _ _ _ _ _ _ _ _ _ r h => by simp [fingerprint_Bound.j5] at h, fun _ _ _ _ _ _ _ _ _ _ _ _ _ _ _ r h => by simp [fingerprint_Bound.j6] at h, fun _ _ _ _ _ _ _ _ _ _ _ _ _ _ _ r h => by simp [fingerprint_Bound.j7] at h⟩
  | k + 1 => by
    obtain ⟨ih0, ih1, ih2, ih3, ih4, ih5, ih6, ih7⟩ := fingerprint_Bound.mono_l k
    refine ⟨?_, ?_, ?_, ?_, ?_, ?_, ?_, ?_⟩
    · intro y0 y1 y2 y3
      unfold fingerprint_Bound.j0
      repeat' first
      | (with_reducible exact ih0 _ _ _ _)
      | (with_reducible exact ih1 _ _ _ _ _ _)
      | (with_reducible exact ih2 _ _ _ _ _ _ _ _ _ _ _)
      | (with_reducible exact ih3 _ _ _ _ _ _ _ _ _ _ _ _ _ _)
      | (with_reducible exact ih4 _ _ _ _ _ _ _ _ _ _ _ _ _ _)
      | (with_reducible exact ih5 _ _ _ _ _ _ _ _ _ _ _ _ _ _)
      | (with_reducible exact ih6 _ _ _ _ _ _ _ _ _ _ _ _ _ _ _)
      | (with_reducible exact ih7 _ _ _ _ _ _ _ _ _ _ _ _ _ _ _)
      | (with_reducible exact LeO.refl _)
      | (with_reducible exact LeO.none _)
      | (with_reducible refine LeO.ite ?_ ?_)
      | (with_reducible refine LeO.bind ?_ (fun _ => ?_))
      | exact ih0 _ _ _ _
      | exact ih1 _ _ _ _ _ _
      | exact ih2 _ _ _ _ _ _ _ _ _ _ _
      | exact ih3 _ _ _ _ _ _ _ _ _ _ _ _ _ _
      | exact ih4 _ _ _ _ _ _ _ _ _ _ _ _ _ _
      | exact ih5 _ _ _ _ _ _ _ _ _ _ _ _ _ _
      | exact ih6 _ _ _ _ _ _ _ _ _ _ _ _ _ _ _
      | exact ih7 _ _ _ _ _ _ _ _ _ _ _ _ _ _ _
      | exact LeO.none _
      | refine LeO.ite ?_ ?_
      | refine LeO.bind ?_ (fun _ => ?_)
    · intro y0 y1 y2 y3 y4 y5
      unfold fingerprint_Bound.l0
      repeat' first
      | (with_reducible exact ih0 _ _ _ _)
      | (with_reducible exact ih1 _ _ _ _ _ _)
      | (with_reducible exact ih2 _ _ _ _ _ _ _ _ _ _ _)
      | (with_reducible exact ih3 _ _ _ _ _ _ _ _ _ _ _ _ _ _)
      | (with_reducible exact ih4 _ _ _ _ _ _ _ _ _ _ _ _ _ _)
      | (with_reducible exact ih5 _ _ _ _ _ _ _ _ _ _ _ _ _ _)
      | (with_reducible exact ih6 _ _ _ _ _ _ _ _ _ _ _ _ _ _ _)
      | (with_reducible exact ih7 _ _ _ _ _ _ _ _ _ _ _ _ _ _ _)
      | (with_reducible exact LeO.refl _)
      | (with_reducible exact LeO.none _)
      | (with_reducible refine LeO.ite ?_ ?_)
      | (with_reducible refine LeO.bind ?_ (fun _ => ?_))
      | exact ih0 _ _ _ _
      | exact ih1 _ _ _ _ _ _
      | exact ih2 _ _ _ _ _ _ _ _ _ _ _
      | exact ih3 _ _ _ _ _ _ _ _ _ _ _ _ _ _
      | exact ih4 _ _ _ _ _ _ _ _ _ _ _ _ _ _
      | exact ih5 _ _ _ _ _ _ _ _ _ _ _ _ _ _
      | exact ih6 _ _ _ _ _ _ _ _ _ _ _ _ _ _ _
      | exact ih7 _ _ _ _ _ _ _ _ _ _ _ _ _ _ _
      | exact LeO.none _
      | refine LeO.ite ?_ ?_
      | refine LeO.bind ?_ (fun _ => ?_)
    · intro y0 y1 y2 y3 y4 y5 y6 y7 y8 y9 y10
      unfold fingerprint_Bound.l1
      repeat' first
      | (with_reducible exact ih0 _ _ _ _)
      | (with_reducible exact ih1 _ _ _ _ _ _)
      | (with_reducible exact ih2 _ _ _ _ _ _ _ _ _ _ _)
      | (with_reducible exact ih3 _ _ _ _ _ _ _ _ _ _ _ _ _ _)
      | (with_reducible exact ih4 _ _ _ _ _ _ _ _ _ _ _ _ _ _)
      | (with_reducible exact ih5 _ _ _ _ _ _ _ _ _ _ _ _ _ _)
      | (with_reducible exact ih6 _ _ _ _ _ _ _ _ _ _ _ _ _ _ _)
      | (with_reducible exact ih7 _ _ _ _ _ _ _ _ _ _ _ _ _ _ _)
      | (with_reducible exact LeO.refl _)
      | (with_reducible exact LeO.none _)
      | (with_reducible refine LeO.ite ?_ ?_)
      | (with_reducible refine LeO.bind ?_ (fun _ => ?_))
      | exact ih0 _ _ _ _
      | exact ih1 _ _ _ _ _ _
      | exact ih2 _ _ _ _ _ _ _ _ _ _ _
      | exact ih3 _ _ _ _ _ _ _ _ _ _ _ _ _ _
      | exact ih4 _ _ _ _ _ _ _ _ _ _ _ _ _ _
      | exact ih5 _ _ _ _ _ _ _ _ _ _ _ _ _ _
      | exact ih6 _ _ _ _ _ _ _ _ _ _ _ _ _ _ _
      | exact ih7 _ _ _ _ _ _ _ _ _ _ _ _ _ _ _
      | exact LeO.none _
      | refine LeO.ite ?_ ?_
      | refine LeO.bind ?_ (fun _ => ?_)
    · intro y0 y1 y2 y3 y4 y5 y6 y7 y8 y9 y10 y11 y12 y13
      unfold fingerprint_Bound.j3
      repeat' first
      | (with_reducible exact ih0 _ _ _ _)
      | (with_reducible exact ih1 _ _ _ _ _ _)
      | (with_reducible exact ih2 _ _ _ _ _ _ _ _ _ _ _)
      | (with_reducible exact ih3 _ _ _ _ _ _ _ _ _ _ _ _ _ _)
      | (with_reducible exact ih4 _ _ _ _ _ _ _ _ _ _ _ _ _ _)
      | (with_reducible exact ih5 _ _ _ _ _ _ _ _ _ _ _ _ _ _)
      | (with_reducible exact ih6 _ _ _ _ _ _ _ _ _ _ _ _ _ _ _)
      | (with_reducible exact ih7 _ _ _ _ _ _ _ _ _ _ _ _ _ _ _)
      | (with_reducible exact LeO.refl _)
      | (with_reducible exact LeO.none _)
      | (with_reducible refine LeO.ite ?_ ?_)
      | (with_reducible refine LeO.bind ?_ (fun _ => ?_))
      | exact ih0 _ _ _ _
      | exact ih1 _ _ _ _ _ _
      | exact ih2 _ _ _ _ _ _ _ _ _ _ _
      | exact ih3 _ _ _ _ _ _ _ _ _ _ _ _ _ _
      | exact ih4 _ _ _ _ _ _ _ _ _ _ _ _ _ _
      | exact ih5 _ _ _ _ _ _ _ _ _ _ _ _ _ _
      | exact ih6 _ _ _ _ _ _ _ _ _ _ _ _ _ _ _
      | exact ih7 _ _ _ _ _ _ _ _ _ _ _ _ _ _ _
      | exact LeO.none _
      | refine LeO.ite ?_ ?_
      | refine LeO.bind ?_ (fun _ => ?_)
    · intro y0 y1 y2 y3 y4 y5 y6 y7 y8 y9 y10 y11 y12 y13
      unfold fingerprint_Bound.j4
      repeat' first
      | (with_reducible exact ih0 _ _ _ _)
      | (with_reducible exact ih1 _ _ _ _ _ _)
      | (with_reducible exact ih2 _ _ _ _ _ _ _ _ _ _ _)
      | (with_reducible exact ih3 _ _ _ _ _ _ _ _ _ _ _ _ _ _)
      | (with_reducible exact ih4 _ _ _ _ _ _ _ _ _ _ _ _ _ _)
      | (with_reducible exact ih5 _ _ _ _ _ _ _ _ _ _ _ _ _ _)
      | (with_reducible exact ih6 _ _ _ _ _ _ _ _ _ _ _ _ _ _ _)
      | (with_reducible exact ih7 _ _ _ _ _ _ _ _ _ _ _ _ _ _ _)
      | (with_reducible exact LeO.refl _)
      | (with_reducible exact LeO.none _)
      | (with_reducible refine LeO.ite ?_ ?_)
      | (with_reducible refine LeO.bind ?_ (fun _ => ?_))
      | exact ih0 _ _ _ _
      | exact ih1 _ _ _ _ _ _
      | exact ih2 _ _ _ _ _ _ _ _ _ _ _
      | exact ih3 _ _ _ _ _ _ _ _ _ _ _ _ _ _
      | exact ih4 _ _ _ _ _ _ _ _ _ _ _ _ _ _
      | exact ih5 _ _ _ _ _ _ _ _ _ _ _ _ _ _
      | exact ih6 _ _ _ _ _ _ _ _ _ _ _ _ _ _ _
      | exact ih7 _ _ _ _ _ _ _ _ _ _ _ _ _ _ _
      | exact LeO.none _
      | refine LeO.ite ?_ ?_
      | refine LeO.bind ?_ (fun _ => ?_)
    · intro y0 y1 y2 y3 y4 y5 y6 y7 y8 y9 y10 y11 y12 y13
      unfold fingerprint_Bound.j5
      repeat' first
      | (with_reducible exact ih0 _ _ _ _)
      | (with_reducible exact ih1 _ _ _ _ _ _)
      | (with_reducible exact ih2 _ _ _ _ _ _ _ _ _ _ _)
      | (with_reducible exact ih3 _ _ _ _ _ _ _ _ _ _ _ _ _ _)
      | (with_reducible exact ih4 _ _ _ _ _ _ _ _ _ _ _ _ _ _)
      | (with_reducible exact ih5 _ _ _ _ _ _ _ _ _ _ _ _ _ _)
      | (with_reducible exact ih6 _ _ _ _ _ _ _ _ _ _ _ _ _ _ _)
      | (with_reducible exact ih7 _ _ _ _ _ _ _ _ _ _ _ _ _ _ _)
      | (with_reducible exact LeO.refl _)
      | (with_reducible exact LeO.none _)
      | (with_reducible refine LeO.ite ?_ ?_)
      | (with_reducible refine LeO.bind ?_ (fun _ => ?_))
      | exact ih0 _ _ _ _
      | exact ih1 _ _ _ _ _ _
      | exact ih2 _ _ _ _ _ _ _ _ _ _ _
      | exact ih3 _ _ _ _ _ _ _ _ _ _ _ _ _ _
      | exact ih4 _ _ _ _ _ _ _ _ _ _ _ _ _ _
      | exact ih5 _ _ _ _ _ _ _ _ _ _ _ _ _ _
      | exact ih6 _ _ _ _ _ _ _ _ _ _ _ _ _ _ _
      | exact ih7 _ _ _ _ _ _ _ _ _ _ _ _ _ _ _
      | exact LeO.none _
      | refine LeO.ite ?_ ?_
      | refine LeO.bind ?_ (fun _ => ?_)
    · intro y0 y1 y2 y3 y4 y5 y6 y7 y8 y9 y10 y11 y12 y13 y14
      unfold fingerprint_Bound.j6
      repeat' first
      | (with_reducible exact ih0 _ _ _ _)
      | (with_reducible exact ih1 _ _ _ _ _ _)
      | (with_reducible exact ih2 _ _ _ _ _ _ _ _ _ _ _)
      | (with_reducible exact ih3 _ _ _ _ _ _ _ _ _ _ _ _ _ _)
      | (with_reducible exact ih4 _ _ _ _ _ _ _ _ _ _ _ _ _ _)
      | (with_reducible exact ih5 _ _ _ _ _ _ _ _ _ _ _ _ _ _)
      | (with_reducible exact ih6 _ _ _ _ _ _ _ _ _ _ _ _ _ _ _)
      | (with_reducible exact ih7 _ _ _ _ _ _ _ _ _ _ _ _ _ _ _)
      | (with_reducible exact LeO.refl _)
      | (with_reducible exact LeO.none _)
      | (with_reducible refine LeO.ite ?_ ?_)
      | (with_reducible refine LeO.bind ?_ (fun _ => ?_))
      | exact ih0 _ _ _ _
      | exact ih1 _ _ _ _ _ _
      | exact ih2 _ _ _ _ _ _ _ _ _ _ _
      | exact ih3 _ _ _ _ _ _ _ _ _ _ _ _ _ _
      | exact ih4 _ _ _ _ _ _ _ _ _ _ _ _ _ _
      | exact ih5 _ _ _ _ _ _ _ _ _ _ _ _ _ _
      | exact ih6 _ _ _ _ _ _ _ _ _ _ _ _ _ _ _
      | exact ih7 _ _ _ _ _ _ _ _ _ _ _ _ _ _ _
      | exact LeO.none _
      | refine LeO.ite ?_ ?_
      | refine LeO.bind ?_ (fun _ => ?_)
    · intro y0 y1 y2 y3 y4 y5 y6 y7 y8 y9 y10 y11 y12 y13 y14
      unfold fingerprint_Bound.j7
      repeat' first
      | (with_reducible exact ih0 _ _ _ _)
      | (with_reducible exact ih1 _ _ _ _ _ _)
      | (with_reducible exact ih2 _ _ _ _ _ _ _ _ _ _ _)
      | (with_reducible exact ih3 _ _ _ _ _ _ _ _ _ _ _ _ _ _)
      | (with_reducible exact ih4 _ _ _ _ _ _ _ _ _ _ _ _ _ _)
      | (with_reducible exact ih5 _ _ _ _ _ _ _ _ _ _ _ _ _ _)
      | (with_reducible exact ih6 _ _ _ _ _ _ _ _ _ _ _ _ _ _ _)
      | (with_reducible exact ih7 _ _ _ _ _ _ _ _ _ _ _ _ _ _ _)
      | (with_reducible exact LeO.refl _)
      | (with_reducible exact LeO.none _)
      | (with_reducible refine LeO.ite ?_ ?_)
      | (with_reducible refine LeO.bind ?_ (fun _ => ?_))
      | exact ih0 _ _ _ _
      | exact ih1 _ _ _ _ _ _
      | exact ih2 _ _ _ _ _ _ _ _ _ _ _
      | exact ih3 _ _ _ _ _ _ _ _ _ _ _ _ _ _
      | exact ih4 _ _ _ _ _ _ _ _ _ _ _ _ _ _
      | exact ih5 _ _ _ _ _ _ _ _ _ _ _ _ _ _
      | exact ih6 _ _ _ _ _ _ _ _ _ _ _ _ _ _ _
      | exact ih7 _ _ _ _ _ _ _ _ _ _ _ _ _ _ _
      | exact LeO.none _
      | refine LeO.ite ?_ ?_
      | refine LeO.bind ?_ (fun _ => ?_)
theorem fingerprint_Bound.mono : ∀ a0 a1 a2 k, LeO (fingerprint_Bound.f k a0 a1 a2) (fingerprint_Bound.f (k + 1) a0 a1 a2) := by
  intro a0 a1 a2 k
  obtain ⟨ih0, ih1, ih2, ih3, ih4, ih5, ih6, ih7⟩ := fingerprint_Bound.mono_l k
  unfold fingerprint_Bound.f
  repeat' first
      | (with_reducible exact ih0 _ _ _ _)
      | (with_reducible exact ih1 _ _ _ _ _ _)
      | (with_reducible exact ih2 _ _ _ _ _ _ _ _ _ _ _)
      | (with_reducible exact ih3 _ _ _ _ _ _ _ _ _ _ _ _ _ _)
      | (with_reducible exact ih4 _ _ _ _ _ _ _ _ _ _ _ _ _ _)
      | (with_reducible exact ih5 _ _ _ _ _ _ _ _ _ _ _ _ _ _)
      | (with_reducible exact ih6 _ _ _ _ _ _ _ _ _ _ _ _ _ _ _)
      | (with_reducible exact ih7 _ _ _ _ _ _ _ _ _ _ _ _ _ _ _)
      | (with_reducible exact LeO.refl _)
      | (with_reducible exact LeO.none _)
      | (with_reducible refine LeO.ite ?_ ?_)
      | (with_reducible refine LeO.bind ?_ (fun _ => ?_))
      | exact ih0 _ _ _ _
      | exact ih1 _ _ _ _ _ _
      | exact ih2 _ _ _ _ _ _ _ _ _ _ _
      | exact ih3 _ _ _ _ _ _ _ _ _ _ _ _ _ _
      | exact ih4 _ _ _ _ _ _ _ _ _ _ _ _ _ _
      | exact ih5 _ _ _ _ _ _ _ _ _ _ _ _ _ _
      | exact ih6 _ _ _ _ _ _ _ _ _ _ _ _ _ _ _
      | exact ih7 _ _ _ _ _ _ _ _ _ _ _ _ _ _ _
      | exact LeO.none _
      | refine LeO.ite ?_ ?_
      | refine LeO.bind ?_ (fun _ => ?_)
set_option maxHeartbeats 8000000 in
set_option maxRecDepth 100000 in
theorem fingerprint_Bound.calls (k : Nat) (A0 : Option Addr) (c0 : Nat) (l0 : List Int) (A1 : Option Addr) (c1 : Nat) (l1 : List Int) (A2 : Option Addr) (c2 : Nat) (l2 : List (List Int)) (r1 : Int) (r2 : Bool) (w : World) (hr0 : Kd.C (Kd.int .i64) w A0 l0.length l0) (hc0 : l0.length ≤ c0) (hr1 : Kd.C (Kd.int .i64) w A1 l1.length l1) (hc1 : l1.length ≤ c1) (hr2 : Kd.C (Kd.slice 3 (Kd.int .i64)) w A2 l2.length l2) (hc2 : l2.length ≤ c2) (h : fingerprint_Bound.f k l0 l1 l2 = some (r1, r2)) :
    Calls Try.prog 31 #[.slice A0 l0.length c0, .slice A1 l1.length c1, .slice A2 l2.length c2] w fun e w' => e = .returned (.tuple #[.int .i64 r1, .bool r2]) ∧ Below w.heap.size w w' := by
  have HR0 := Aside0.mk hr0
  have HC0 := Aside0.mk hc0
  clear hr0 hc0
  have HR1 := Aside0.mk hr1
  have HC1 := Aside0.mk hc1
  clear hr1 hc1
  have HR2 := Aside0.mk hr2
  have HC2 := Aside0.mk hc2
  clear hr2 hc2
  have HB := Aside0.mk (Below.refl w.heap.size w)
  have H : ((fingerprint_Heard.f l0).bind fun t160 => (if t160 = true then ((fingerprint_isPrint.f l1).bind fun t161 => (if t161 = true then (fingerprint_Bound.j0 k l0 l1 l2 ((l2.length : Int) != (wrap64 ((l0.length : Int) + 1)))) else (fingerprint_Bound.j0 k l0 l1 l2 true))) else (fingerprint_Bound.j0 k l0 l1 l2 true))) = some (r1, r2) := h
  clear h
  have HC4 := Aside0.mk H
  clear H
  go_enter Try.func31, Try.ntmps31
  go_upto_region 1 with (fail)
  repeat (go_quiet (fail); go_upto_region 1 with (fail))
  go_cut [28] (fun v28 wc => ∃ (kq : Nat) (x28_3 : Bool), v28 = .bool x28_3 ∧ Aside0 (fingerprint_Bound.j0 kq l0 l1 l2 x28_3 = some (r1, r2)) ∧ Aside0 (kq ≤ k) ∧ Aside0 (Below w.heap.size w wc))
  case first =>
    have H := HC4.out
    clear HC4
    replace H := Option.bind_eq_some_iff.mp H
    obtain ⟨t160, A50, H⟩ := H
    replace H : (if t160 = true then ((fingerprint_isPrint.f l1).bind fun t161 => (if t161 = true then (fingerprint_Bound.j0 k l0 l1 l2 ((l2.length : Int) != (wrap64 ((l0.length : Int) + 1)))) else (fingerprint_Bound.j0 k l0 l1 l2 true))) else (fingerprint_Bound.j0 k l0 l1 l2 true)) = some (r1, r2) := H
    have A5 := Aside0.mk A50
    clear A50
    by_cases c6 : t160 = true
    · subst c6
      have H1 : ((fingerprint_isPrint.f l1).bind fun t161 => (if t161 = true then (fingerprint_Bound.j0 k l0 l1 l2 ((l2.length : Int) != (wrap64 ((l0.length : Int) + 1)))) else (fingerprint_Bound.j0 k l0 l1 l2 true))) = some (r1, r2) := by rw [if_pos rfl] at H; exact H
      clear H
      have H := H1
      clear H1
      replace H := Option.bind_eq_some_iff.mp H
      obtain ⟨t161, A70, H⟩ := H
      replace H : (if t161 = true then (fingerprint_Bound.j0 k l0 l1 l2 ((l2.length : Int) != (wrap64 ((l0.length : Int) + 1)))) else (fingerprint_Bound.j0 k l0 l1 l2 true)) = some (r1, r2) := H
      have A7 := Aside0.mk A70
      clear A70
      by_cases c8 : t161 = true
      · subst c8
        have H1 : (fingerprint_Bound.j0 k l0 l1 l2 ((l2.length : Int) != (wrap64 ((l0.length : Int) + 1)))) = some (r1, r2) := by rw [if_pos rfl] at H; exact H
        clear H
        have H := H1
        clear H1
        have H' := Aside0.mk H
        clear H
        go_wp2_with (first | (go_at_call 15; (with_reducible refine (fingerprint_Heard.calls _ _ l0 true _ ?side1 ?side2 A5.out).mono ?_); (case side1 => repeat (first | exact (Kd.C_below HR0.out HB.out) | (with_reducible refine Kd.C_alloc ?_ _) | (with_reducible refine Kd.C_drewN ?_ _) | (with_reducible refine Kd.C_drew ?_))); (case side2 => exact HC0.out); rintro e w9 ⟨rfl, hb⟩; have n0_ := Aside0.mk (below_step (by repeat (first | (with_reducible first | exact HB.out | apply below_alloc | apply pw_below_drewN | apply below_drew1) | exact HB.out)) hb); clear HB; have HB := n0_; clear n0_; (try clear hb); (try clear hb2); (try clear hk); (try clear hi)) | (go_at_call 41; (with_reducible refine (fingerprint_isPrint.calls _ _ l1 true _ ?side1 ?side2 A7.out).mono ?_); (case side1 => repeat (first | exact (Kd.C_below HR1.out HB.out) | (with_reducible refine Kd.C_alloc ?_ _) | (with_reducible refine Kd.C_drewN ?_ _) | (with_reducible refine Kd.C_drew ?_))); (case side2 => exact HC1.out); rintro e w10 ⟨rfl, hb⟩; have n0_ := Aside0.mk (below_step (by repeat (first | (with_reducible first | exact HB.out | apply below_alloc | apply pw_below_drewN | apply below_drew1) | exact HB.out)) hb); clear HB; have HB := n0_; clear n0_; (try clear hb); (try clear hb2); (try clear hk); (try clear hi)))
        repeat (go_quiet (first | (go_at_call 15; (with_reducible refine (fingerprint_Heard.calls _ _ l0 true _ ?side1 ?side2 A5.out).mono ?_); (case side1 => repeat (first | exact (Kd.C_below HR0.out HB.out) | (with_reducible refine Kd.C_alloc ?_ _) | (with_reducible refine Kd.C_drewN ?_ _) | (with_reducible refine Kd.C_drew ?_))); (case side2 => exact HC0.out); rintro e w9 ⟨rfl, hb⟩; have n0_ := Aside0.mk (below_step (by repeat (first | (with_reducible first | exact HB.out | apply below_alloc | apply pw_below_drewN | apply below_drew1) | exact HB.out)) hb); clear HB; have HB := n0_; clear n0_; (try clear hb); (try clear hb2); (try clear hk); (try clear hi)) | (go_at_call 41; (with_reducible refine (fingerprint_isPrint.calls _ _ l1 true _ ?side1 ?side2 A7.out).mono ?_); (case side1 => repeat (first | exact (Kd.C_below HR1.out HB.out) | (with_reducible refine Kd.C_alloc ?_ _) | (with_reducible refine Kd.C_drewN ?_ _) | (with_reducible refine Kd.C_drew ?_))); (case side2 => exact HC1.out); rintro e w10 ⟨rfl, hb⟩; have n0_ := Aside0.mk (below_step (by repeat (first | (with_reducible first | exact HB.out | apply below_alloc | apply pw_below_drewN | apply below_drew1) | exact HB.out)) hb); clear HB; have HB := n0_; clear n0_; (try clear hb); (try clear hb2); (try clear hk); (try clear hi))); try go_wp2_with (first | (go_at_call 15; (with_reducible refine (fingerprint_Heard.calls _ _ l0 true _ ?side1 ?side2 A5.out).mono ?_); (case side1 => repeat (first | exact (Kd.C_below HR0.out HB.out) | (with_reducible refine Kd.C_alloc ?_ _) | (with_reducible refine Kd.C_drewN ?_ _) | (with_reducible refine Kd.C_drew ?_))); (case side2 => exact HC0.out); rintro e w9 ⟨rfl, hb⟩; have n0_ := Aside0.mk (below_step (by repeat (first | (with_reducible first | exact HB.out | apply below_alloc | apply pw_below_drewN | apply below_drew1) | exact HB.out)) hb); clear HB; have HB := n0_; clear n0_; (try clear hb); (try clear hb2); (try clear hk); (try clear hi)) | (go_at_call 41; (with_reducible refine (fingerprint_isPrint.calls _ _ l1 true _ ?side1 ?side2 A7.out).mono ?_); (case side1 => repeat (first | exact (Kd.C_below HR1.out HB.out) | (with_reducible refine Kd.C_alloc ?_ _) | (with_reducible refine Kd.C_drewN ?_ _) | (with_reducible refine Kd.C_drew ?_))); (case side2 => exact HC1.out); rintro e w10 ⟨rfl, hb⟩; have n0_ := Aside0.mk (below_step (by repeat (first | (with_reducible first | exact HB.out | apply below_alloc | apply pw_below_drewN | apply below_drew1) | exact HB.out)) hb); clear HB; have HB := n0_; clear n0_; (try clear hb); (try clear hb2); (try clear hk); (try clear hi))))
        go_meet
        case rel => exact ⟨_, (((l2.length : Int) != (wrap64 ((l0.length : Int) + 1)))), (by first | rfl | (simp; done) | (simp [*]; done)), H', ⟨by first | omega | exact Nat.le_refl _⟩, ⟨by repeat (first | (with_reducible first | exact HB.out | apply below_alloc | apply pw_below_drewN | apply below_drew1) | exact HB.out)⟩⟩
      · replace c8 := Bool.eq_false_iff.mpr c8
        subst c8
        have H1 : (fingerprint_Bound.j0 k l0 l1 l2 true) = some (r1, r2) := by rw [if_neg (show ¬ (false = true) by decide)] at H; exact H
        clear H
        have H := H1
        clear H1
        have H' := Aside0.mk H
        clear H
        go_wp2_with (first | (go_at_call 15; (with_reducible refine (fingerprint_Heard.calls _ _ l0 true _ ?side1 ?side2 A5.out).mono ?_); (case side1 => repeat (first | exact (Kd.C_below HR0.out HB.out) | (with_reducible refine Kd.C_alloc ?_ _) | (with_reducible refine Kd.C_drewN ?_ _) | (with_reducible refine Kd.C_drew ?_))); (case side2 => exact HC0.out); rintro e w11 ⟨rfl, hb⟩; have n0_ := Aside0.mk (below_step (by repeat (first | (with_reducible first | exact HB.out | apply below_alloc | apply pw_below_drewN | apply below_drew1) | exact HB.out)) hb); clear HB; have HB := n0_; clear n0_; (try clear hb); (try clear hb2); (try clear hk); (try clear hi)) | (go_at_call 41; (with_reducible refine (fingerprint_isPrint.calls _ _ l1 false _ ?side1 ?side2 A7.out).mono ?_); (case side1 => repeat (first | exact (Kd.C_below HR1.out HB.out) | (with_reducible refine Kd.C_alloc ?_ _) | (with_reducible refine Kd.C_drewN ?_ _) | (with_reducible refine Kd.C_drew ?_))); (case side2 => exact HC1.out); rintro e w12 ⟨rfl, hb⟩; have n0_ := Aside0.mk (below_step (by repeat (first | (with_reducible first | exact HB.out | apply below_alloc | apply pw_below_drewN | apply below_drew1) | exact HB.out)) hb); clear HB; have HB := n0_; clear n0_; (try clear hb); (try clear hb2); (try clear hk); (try clear hi)))
        repeat (go_quiet (first | (go_at_call 15; (with_reducible refine (fingerprint_Heard.calls _ _ l0 true _ ?side1 ?side2 A5.out).mono ?_); (case side1 => repeat (first | exact (Kd.C_below HR0.out HB.out) | (with_reducible refine Kd.C_alloc ?_ _) | (with_reducible refine Kd.C_drewN ?_ _) | (with_reducible refine Kd.C_drew ?_))); (case side2 => exact HC0.out); rintro e w11 ⟨rfl, hb⟩; have n0_ := Aside0.mk (below_step (by repeat (first | (with_reducible first | exact HB.out | apply below_alloc | apply pw_below_drewN | apply below_drew1) | exact HB.out)) hb); clear HB; have HB := n0_; clear n0_; (try clear hb); (try clear hb2); (try clear hk); (try clear hi)) | (go_at_call 41; (with_reducible refine (fingerprint_isPrint.calls _ _ l1 false _ ?side1 ?side2 A7.out).mono ?_); (case side1 => repeat (first | exact (Kd.C_below HR1.out HB.out) | (with_reducible refine Kd.C_alloc ?_ _) | (with_reducible refine Kd.C_drewN ?_ _) | (with_reducible refine Kd.C_drew ?_))); (case side2 => exact HC1.out); rintro e w12 ⟨rfl, hb⟩; have n0_ := Aside0.mk (below_step (by repeat (first | (with_reducible first | exact HB.out | apply below_alloc | apply pw_below_drewN | apply below_drew1) | exact HB.out)) hb); clear HB; have HB := n0_; clear n0_; (try clear hb); (try clear hb2); (try clear hk); (try clear hi))); try go_wp2_with (first | (go_at_call 15; (with_reducible refine (fingerprint_Heard.calls _ _ l0 true _ ?side1 ?side2 A5.out).mono ?_); (case side1 => repeat (first | exact (Kd.C_below HR0.out HB.out) | (with_reducible refine Kd.C_alloc ?_ _) | (with_reducible refine Kd.C_drewN ?_ _) | (with_reducible refine Kd.C_drew ?_))); (case side2 => exact HC0.out); rintro e w11 ⟨rfl, hb⟩; have n0_ := Aside0.mk (below_step (by repeat (first | (with_reducible first | exact HB.out | apply below_alloc | apply pw_below_drewN | apply below_drew1) | exact HB.out)) hb); clear HB; have HB := n0_; clear n0_; (try clear hb); (try clear hb2); (try clear hk); (try clear hi)) | (go_at_call 41; (with_reducible refine (fingerprint_isPrint.calls _ _ l1 false _ ?side1 ?side2 A7.out).mono ?_); (case side1 => repeat (first | exact (Kd.C_below HR1.out HB.out) | (with_reducible refine Kd.C_alloc ?_ _) | (with_reducible refine Kd.C_drewN ?_ _) | (with_reducible refine Kd.C_drew ?_))); (case side2 => exact HC1.out); rintro e w12 ⟨rfl, hb⟩; have n0_ := Aside0.mk (below_step (by repeat (first | (with_reducible first | exact HB.out | apply below_alloc | apply pw_below_drewN | apply below_drew1) | exact HB.out)) hb); clear HB; have HB := n0_; clear n0_; (try clear hb); (try clear hb2); (try clear hk); (try clear hi))))
        go_meet
        case rel => exact ⟨_, (true), (by first | rfl | (simp; done) | (simp [*]; done)), H', ⟨by first | omega | exact Nat.le_refl _⟩, ⟨by repeat (first | (with_reducible first | exact HB.out | apply below_alloc | apply pw_below_drewN | apply below_drew1) | exact HB.out)⟩⟩
    · replace c6 := Bool.eq_false_iff.mpr c6
      subst c6
      have H1 : (fingerprint_Bound.j0 k l0 l1 l2 true) = some (r1, r2) := by rw [if_neg (show ¬ (false = true) by decide)] at H; exact H
      clear H
      have H := H1
      clear H1
      have H' := Aside0.mk H
      clear H
      go_wp2_with (first | (go_at_call 15; (with_reducible refine (fingerprint_Heard.calls _ _ l0 false _ ?side1 ?side2 A5.out).mono ?_); (case side1 => repeat (first | exact (Kd.C_below HR0.out HB.out) | (with_reducible refine Kd.C_alloc ?_ _) | (with_reducible refine Kd.C_drewN ?_ _) | (with_reducible refine Kd.C_drew ?_))); (case side2 => exact HC0.out); rintro e w13 ⟨rfl, hb⟩; have n0_ := Aside0.mk (below_step (by repeat (first | (with_reducible first | exact HB.out | apply below_alloc | apply pw_below_drewN | apply below_drew1) | exact HB.out)) hb); clear HB; have HB := n0_; clear n0_; (try clear hb); (try clear hb2); (try clear hk); (try clear hi)))
      repeat (go_quiet (first | (go_at_call 15; (with_reducible refine (fingerprint_Heard.calls _ _ l0 false _ ?side1 ?side2 A5.out).mono ?_); (case side1 => repeat (first | exact (Kd.C_below HR0.out HB.out) | (with_reducible refine Kd.C_alloc ?_ _) | (with_reducible refine Kd.C_drewN ?_ _) | (with_reducible refine Kd.C_drew ?_))); (case side2 => exact HC0.out); rintro e w13 ⟨rfl, hb⟩; have n0_ := Aside0.mk (below_step (by repeat (first | (with_reducible first | exact HB.out | apply below_alloc | apply pw_below_drewN | apply below_drew1) | exact HB.out)) hb); clear HB; have HB := n0_; clear n0_; (try clear hb); (try clear hb2); (try clear hk); (try clear hi))); try go_wp2_with (first | (go_at_call 15; (with_reducible refine (fingerprint_Heard.calls _ _ l0 false _ ?side1 ?side2 A5.out).mono ?_); (case side1 => repeat (first | exact (Kd.C_below HR0.out HB.out) | (with_reducible refine Kd.C_alloc ?_ _) | (with_reducible refine Kd.C_drewN ?_ _) | (with_reducible refine Kd.C_drew ?_))); (case side2 => exact HC0.out); rintro e w13 ⟨rfl, hb⟩; have n0_ := Aside0.mk (below_step (by repeat (first | (with_reducible first | exact HB.out | apply below_alloc | apply pw_below_drewN | apply below_drew1) | exact HB.out)) hb); clear HB; have HB := n0_; clear n0_; (try clear hb); (try clear hb2); (try clear hk); (try clear hi))))
      go_meet
      case rel => exact ⟨_, (true), (by first | rfl | (simp; done) | (simp [*]; done)), H', ⟨by first | omega | exact Nat.le_refl _⟩, ⟨by repeat (first | (with_reducible first | exact HB.out | apply below_alloc | apply pw_below_drewN | apply below_drew1) | exact HB.out)⟩⟩
  case rest =>
    clear HC4
    try clear c1
    try clear c2
    try clear p2
    try clear c3
    try clear c6
    try clear p6
    try clear c8
    obtain ⟨kq, x28_3, rfl, HA, HJ3, HB⟩ := hcut
    cases kq with
    | zero => exact absurd HA.out (by simp [fingerprint_Bound.j0])
    | succ kj3 =>
      have H := HA.out
      clear HA
      simp only [fingerprint_Bound.j0] at H
      by_cases c14 : x28_3 = true
      · subst c14
        have H1 : (some (0, false)) = some (r1, r2) := by rw [if_pos rfl] at H; exact H
        clear H
        have H := H1
        clear H1
        simp only [Option.some.injEq, Prod.mk.injEq] at H
        obtain ⟨rfl, rfl⟩ := H
        go_wp2
        repeat (go_quiet (fail); try go_wp2)
        go_ret2
        exact ⟨by first | rfl | (simp [errW_none, errW_some] <;> rfl) | (simp [*, errW_none, errW_some] <;> rfl), by repeat (first | (with_reducible first | exact HB.out | apply below_alloc | apply pw_below_drewN | apply below_drew1) | exact HB.out)⟩
      · replace c14 := Bool.eq_false_iff.mpr c14
        subst c14
        have H1 : (fingerprint_Bound.l0 kj3 l0 l1 l2 l2 (l2.length : Int) 0) = some (r1, r2) := by rw [if_neg (show ¬ (false = true) by decide)] at H; exact H
        clear H
        have H := H1
        clear H1
        have H' := Aside0.mk H
        clear H
        go_wp2
        repeat (go_quiet (fail); try go_wp2)
        go_loopg [31] kj3 (fun kq v31 w' => ∃ (x31_2 : Int), v31 = .int .i64 x31_2 ∧ Aside0 (fingerprint_Bound.l0 kq l0 l1 l2 l2 (l2.length : Int) x31_2 = some (r1, r2)) ∧ Aside0 (kq ≤ kj3) ∧ Aside0 (Below w.heap.size w w'))
        case atStart => exact ⟨(0), (by first | rfl | (simp; done) | (simp [*]; done)), H', ⟨Nat.le_refl _⟩, ⟨by repeat (first | (with_reducible first | exact HB.out | apply below_alloc | apply pw_below_drewN | apply below_drew1) | exact HB.out)⟩⟩
        case round =>
          clear H'
          try clear c1
          try clear c2
          try clear p2
          try clear c3
          try clear c6
          try clear p6
          try clear c8
          try clear c14
          try clear p2
          try clear p6
          obtain ⟨x31_2, rfl, HA, HK2, HB⟩ := hrel
          cases gk with
          | zero => exact absurd HA.out (by simp [fingerprint_Bound.l0])
          | succ k2 =>
            have H := HA.out
            clear HA
            simp only [fingerprint_Bound.l0] at H
            by_cases c15 : x31_2 < (l2.length : Int)
            · rw [if_pos c15] at H
              have c15b0 : decide (x31_2 < (l2.length : Int)) = true := decide_eq_true c15
              clear c15
              by_cases c16 : 0 ≤ x31_2
              · rw [if_pos c16] at H
                have c16b0 : decide (0 ≤ x31_2) = true := decide_eq_true c16
                clear c16
                by_cases c17 : x31_2 < (l2.length : Int)
                · rw [if_pos c17] at H
                  have c17b0 : decide (x31_2 < (l2.length : Int)) = true := decide_eq_true c17
                  clear c17
                  by_cases c18 : ((rd_L1 l2 x31_2).length : Int) = (wrap64 ((l1.length : Int) + 1))
                  · rw [if_pos c18] at H
                    have c18b0 : (((rd_L1 l2 x31_2).length : Int) == (wrap64 ((l1.length : Int) + 1))) = true := beq_iff_eq.mpr c18
                    have c18b1 : (((rd_L1 l2 x31_2).length : Int) != (wrap64 ((l1.length : Int) + 1))) = false := bne_eq_false_iff_eq.mpr c18
                    clear c18
                    have H' := Aside0.mk H
                    clear H
                    have p164 : 0 ≤ (x31_2 : Int) := of_decide_eq_true (by first | (with_reducible assumption) | assumption)
                    have q164 : x31_2 < (l2.length : Int) := of_decide_eq_true (by first | (with_reducible assumption) | assumption)
                    obtain ⟨ad164, A164_0, c164_0, e164, hx164_0, hl164_0, hi164_0⟩ := at_L1 HR2.out x31_2 p164 q164
                    cases e164
                    replace hx164_0 := (HB.out.cell (World.block_lt_of_cell? w _ hx164_0)).trans hx164_0
                    have HR164_0 := Aside0.mk hi164_0
                    have HC164_0 := Aside0.mk hl164_0
                    clear hi164_0 hl164_0
                    replace p164 := eq_true p164
                    replace q164 := eq_true q164
                    go_wp2
                    repeat (go_quiet (fail); try go_wp2)
                    go_loopg [44] k2 (fun kq v44 w' => ∃ (x44_3 : Int), v44 = .int .i64 x44_3 ∧ Aside0 (fingerprint_Bound.l1 kq l0 l1 l2 x31_2 (rd_L1 l2 x31_2) l2 (l2.length : Int) x31_2 (rd_L1 l2 x31_2) ((rd_L1 l2 x31_2).length : Int) x44_3 = some (r1, r2)) ∧ Aside0 (kq ≤ k2) ∧ Aside0 (Below w.heap.size w w'))
                    case atStart => exact ⟨(0), (by first | rfl | (simp; done) | (simp [*]; done)), H', ⟨Nat.le_refl _⟩, ⟨by repeat (first | (with_reducible first | exact HB.out | apply below_alloc | apply pw_below_drewN | apply below_drew1) | exact HB.out)⟩⟩
                    case round =>
                      clear H'
                      try clear c1
                      try clear p1
                      try clear q1
                      try clear hx1
                      try clear c2
                      try clear p2
                      try clear c3
                      try clear c6
                      try clear p6
                      try clear c8
                      try clear c14
                      try clear c15
                      try clear c15b0
                      try clear c16
                      try clear c16b0
                      try clear p16
                      try clear q16
                      try clear hx16
                      try clear c17
                      try clear c17b0
                      try clear c18
                      try clear c18b0
                      try clear c18b1
                      try clear hx164_0
                      try clear p164
                      try clear p2
                      try clear p6
                      try clear q164
                      obtain ⟨x44_3, rfl, HA, HK3, HB⟩ := hrel
                      cases gk with
                      | zero => exact absurd HA.out (by simp [fingerprint_Bound.l1])
                      | succ k3 =>
                        have H := HA.out
                        clear HA
                        simp only [fingerprint_Bound.l1] at H
                        by_cases c19 : x44_3 < ((rd_L1 l2 x31_2).length : Int)
                        · rw [if_pos c19] at H
                          have c19b0 : decide (x44_3 < ((rd_L1 l2 x31_2).length : Int)) = true := decide_eq_true c19
                          clear c19
                          by_cases c20 : 0 ≤ x44_3
                          · rw [if_pos c20] at H
                            have c20b0 : decide (0 ≤ x44_3) = true := decide_eq_true c20
                            clear c20
                            by_cases c21 : x44_3 < ((rd_L1 l2 x31_2).length : Int)
                            · rw [if_pos c21] at H
                              have c21b0 : decide (x44_3 < ((rd_L1 l2 x31_2).length : Int)) = true := decide_eq_true c21
                              clear c21
                              have HC22 := Aside0.mk H
                              clear H
                              have p165 : 0 ≤ (x44_3 : Int) := of_decide_eq_true (by first | (with_reducible assumption) | assumption)
                              have q165 : x44_3 < ((rd_L1 l2 x31_2).length : Int) := of_decide_eq_true (by first | (with_reducible assumption) | assumption)
                              obtain ⟨ad165, e165, hx165_0⟩ := Kd.at_int HR164_0.out x44_3 p165 q165
                              cases e165
                              replace hx165_0 := (HB.out.cell (World.block_lt_of_cell? w _ hx165_0)).trans hx165_0
                              replace p165 := eq_true p165
                              replace q165 := eq_true q165
                              go_upto_if 50 with (fail)
                              repeat (go_quiet (fail); go_upto_if 50 with (fail))
                              go_cut [12] (fun v12 wc => ∃ (kq : Nat) (x12_21 : Int), v12 = .int .i64 x12_21 ∧ Aside0 (fingerprint_Bound.j3 kq l0 l1 l2 x31_2 (rd_L1 l2 x31_2) x44_3 (rd (rd_L1 l2 x31_2) x44_3) x12_21 l2 (l2.length : Int) x31_2 (rd_L1 l2 x31_2) ((rd_L1 l2 x31_2).length : Int) x44_3 = some (r1, r2)) ∧ Aside0 (kq ≤ k3) ∧ Aside0 (Below w.heap.size w wc))
                              case first =>
                                have H := HC22.out
                                clear HC22
                                by_cases c23 : x31_2 = 0
                                · rw [if_pos c23] at H
                                  have c23b0 : (x31_2 == 0) = true := beq_iff_eq.mpr c23
                                  have c23b1 : (x31_2 != 0) = false := bne_eq_false_iff_eq.mpr c23
                                  clear c23
                                  (first | rw [c23b0] | (simp only [i64_w, i32_w]; rw [c23b0]) | skip)
                                  have H' := Aside0.mk H
                                  clear H
                                  go_wp2
                                  repeat (go_quiet (fail); try go_wp2)
                                  go_meet
                                  case rel => exact ⟨_, (0), (by first | rfl | (simp; done) | (simp [*]; done)), H', ⟨by have := HJ3.out; have := HK2.out; have := HK3.out; first | omega | exact Nat.le_refl _⟩, ⟨by repeat (first | (with_reducible first | exact HB.out | apply below_alloc | apply pw_below_drewN | apply below_drew1) | exact HB.out)⟩⟩
                                · rw [if_neg c23] at H
                                  have c23b0 : (x31_2 == 0) = false := beq_eq_false_iff_ne.mpr c23
                                  have c23b1 : (x31_2 != 0) = true := bne_iff_ne.mpr c23
                                  (first | rw [c23b0] | (simp only [i64_w, i32_w]; rw [c23b0]) | skip)
                                  have H' := Aside0.mk H
                                  clear H
                                  go_wp2
                                  repeat (go_quiet (fail); try go_wp2)
                                  go_meet
                                  case rel => exact ⟨_, (1000), (by first | rfl | (simp; done) | (simp [*]; done)), H', ⟨by have := HJ3.out; have := HK2.out; have := HK3.out; first | omega | exact Nat.le_refl _⟩, ⟨by repeat (first | (with_reducible first | exact HB.out | apply below_alloc | apply pw_below_drewN | apply below_drew1) | exact HB.out)⟩⟩
                              case rest =>
                                clear HC22
                                try clear c1
                                try clear p1
                                try clear q1
                                try clear hx1
                                try clear c2
                                try clear p2
                                try clear c3
                                try clear c6
                                try clear p6
                                try clear c8
                                try clear c14
                                try clear c15
                                try clear c15b0
                                try clear c16
                                try clear c16b0
                                try clear p16
                                try clear q16
                                try clear hx16
                                try clear c17
                                try clear c17b0
                                try clear c18
                                try clear c18b0
                                try clear c18b1
                                try clear c19
                                try clear c19b0
                                try clear c20
                                try clear c20b0
                                try clear c21
                                try clear c21b0
                                try clear c23
                                try clear c23b0
                                try clear c23b1
                                try clear hx164_0
                                try clear hx165_0
                                try clear p1
                                try clear p16
                                try clear p164
                                try clear p165
                                try clear p2
                                try clear p6
                                try clear q1
                                try clear q16
                                try clear q164
                                try clear q165
                                obtain ⟨kq, x12_21, rfl, HA, HJ21, HB⟩ := hcut
                                cases kq with
                                | zero => exact absurd HA.out (by simp [fingerprint_Bound.j3])
                                | succ kj21 =>
                                  have H := HA.out
                                  clear HA
                                  simp only [fingerprint_Bound.j3] at H
                                  have HC24 := Aside0.mk H
                                  clear H
                                  go_upto_if 52 with (fail)
                                  repeat (go_quiet (fail); go_upto_if 52 with (fail))
                                  go_cut [12] (fun v12 wc => ∃ (kq : Nat) (x12_23 : Int), v12 = .int .i64 x12_23 ∧ Aside0 (fingerprint_Bound.j4 kq l0 l1 l2 x31_2 (rd_L1 l2 x31_2) x44_3 (rd (rd_L1 l2 x31_2) x44_3) x12_23 l2 (l2.length : Int) x31_2 (rd_L1 l2 x31_2) ((rd_L1 l2 x31_2).length : Int) x44_3 = some (r1, r2)) ∧ Aside0 (kq ≤ kj21) ∧ Aside0 (Below w.heap.size w wc))
                                  case first =>
                                    have H := HC24.out
                                    clear HC24
                                    by_cases c25 : x31_2 > 0
                                    · rw [if_pos c25] at H
                                      have c25b0 : decide (0 < x31_2) = true := decide_eq_true c25
                                      clear c25
                                      (first | rw [c25b0] | (simp only [i64_w, i32_w]; rw [c25b0]) | skip)
                                      obtain ⟨ji26, hji26⟩ : ∃ j_ : Int, (wrap64 (x31_2 - 1)) = j_ := ⟨_, rfl⟩
                                      replace H : (if 0 ≤ (ji26) then (if (ji26) < (l2.length : Int) then (if 0 ≤ x44_3 then (if x44_3 < ((rd_L1 l2 (ji26)).length : Int) then (fingerprint_Bound.j4 kj21 l0 l1 l2 x31_2 (rd_L1 l2 x31_2) x44_3 (rd (rd_L1 l2 x31_2) x44_3) (mn x12_21 (wrap64 ((rd (rd_L1 l2 (ji26)) x44_3) + 1))) l2 (l2.length : Int) x31_2 (rd_L1 l2 x31_2) ((rd_L1 l2 x31_2).length : Int) x44_3) else (none)) else (none)) else (none)) else (none)) = some (r1, r2) := by first | (rw [hji26] at H; exact H) | (simp only [hji26] at H ⊢; exact H)
                                      have hji26w : (IntKind.i64.wrap (x31_2 - 1)) = ji26 := (i64_w _).trans hji26
                                      by_cases c27 : 0 ≤ (ji26)
                                      · rw [if_pos c27] at H
                                        have c27b0 : decide (0 ≤ (ji26)) = true := decide_eq_true c27
                                        clear c27
                                        by_cases c28 : (ji26) < (l2.length : Int)
                                        · rw [if_pos c28] at H
                                          have c28b0 : decide ((ji26) < (l2.length : Int)) = true := decide_eq_true c28
                                          clear c28
                                          by_cases c29 : 0 ≤ x44_3
                                          · rw [if_pos c29] at H
                                            have c29b0 : decide (0 ≤ x44_3) = true := decide_eq_true c29
                                            clear c29
                                            by_cases c30 : x44_3 < ((rd_L1 l2 (ji26)).length : Int)
                                            · rw [if_pos c30] at H
                                              have c30b0 : decide (x44_3 < ((rd_L1 l2 (ji26)).length : Int)) = true := decide_eq_true c30
                                              clear c30
                                              obtain ⟨ji31, hji31⟩ : ∃ j_ : Int, (mn x12_21 (wrap64 ((rd (rd_L1 l2 (ji26)) x44_3) + 1))) = j_ := ⟨_, rfl⟩
                                              replace H : (fingerprint_Bound.j4 kj21 l0 l1 l2 x31_2 (rd_L1 l2 x31_2) x44_3 (rd (rd_L1 l2 x31_2) x44_3) ji31 l2 (l2.length : Int) x31_2 (rd_L1 l2 x31_2) ((rd_L1 l2 x31_2).length : Int) x44_3) = some (r1, r2) := by first | (rw [hji31] at H; exact H) | (simp only [hji31] at H ⊢; exact H)
                                              have hji31_ : (if (wrap64 ((rd (rd_L1 l2 (ji26)) x44_3) + 1)) < x12_21 then (wrap64 ((rd (rd_L1 l2 (ji26)) x44_3) + 1)) else x12_21) = ji31 := hji31
                                              have H' := Aside0.mk H
                                              clear H
                                              have p166 : 0 ≤ ((ji26) : Int) := of_decide_eq_true (by first | (with_reducible assumption) | assumption)
                                              have q166 : (ji26) < (l2.length : Int) := of_decide_eq_true (by first | (with_reducible assumption) | assumption)
                                              obtain ⟨ad166, A166_0, c166_0, e166, hx166_0, hl166_0, hi166_0⟩ := at_L1 HR2.out (ji26) p166 q166
                                              obtain rfl : ad164 = ad166 := (by injection e166)
                                              replace hx166_0 := (HB.out.cell (World.block_lt_of_cell? w _ hx166_0)).trans hx166_0
                                              have HR166_0 := Aside0.mk hi166_0
                                              have HC166_0 := Aside0.mk hl166_0
                                              clear hi166_0 hl166_0
                                              replace p166 := eq_true p166
                                              replace q166 := eq_true q166
                                              have p167 : 0 ≤ (x44_3 : Int) := of_decide_eq_true (by first | (with_reducible assumption) | assumption)
                                              have q167 : x44_3 < ((rd_L1 l2 (ji26)).length : Int) := of_decide_eq_true (by first | (with_reducible assumption) | assumption)
                                              obtain ⟨ad167, e167, hx167_0⟩ := Kd.at_int HR166_0.out x44_3 p167 q167
                                              cases e167
                                              replace hx167_0 := (HB.out.cell (World.block_lt_of_cell? w _ hx167_0)).trans hx167_0
                                              replace p167 := eq_true p167
                                              replace q167 := eq_true q167
                                              go_wp2
                                              repeat (go_quiet (fail); try go_wp2)
                                              go_meet
                                              case rel => exact ⟨_, (ji31), (by first | rfl | (simp; done) | (simp only [← hji31] <;> (first | rfl | simp)) | (simp [*]; done)), H', ⟨by have := HJ3.out; have := HK2.out; have := HK3.out; have := HJ21.out; first | omega | exact Nat.le_refl _⟩, ⟨by repeat (first | (with_reducible first | exact HB.out | apply below_alloc | apply pw_below_drewN | apply below_drew1) | exact HB.out)⟩⟩
                                            · rw [if_neg c30] at H
                                              exact absurd H (by simp)
                                          · rw [if_neg c29] at H
                                            exact absurd H (by simp)
                                        · rw [if_neg c28] at H
                                          exact absurd H (by simp)
                                      · rw [if_neg c27] at H
                                        exact absurd H (by simp)
                                    · rw [if_neg c25] at H
                                      have c25b0 : decide (0 < x31_2) = false := decide_eq_false c25
                                      clear c25
                                      (first | rw [c25b0] | (simp only [i64_w, i32_w]; rw [c25b0]) | skip)
                                      have H' := Aside0.mk H
                                      clear H
                                      go_wp2
                                      repeat (go_quiet (fail); try go_wp2)
                                      go_meet
                                      case rel => exact ⟨_, (x12_21), (by first | rfl | (simp; done) | (simp [*]; done)), H', ⟨by have := HJ3.out; have := HK2.out; have := HK3.out; have := HJ21.out; first | omega | exact Nat.le_refl _⟩, ⟨by repeat (first | (with_reducible first | exact HB.out | apply below_alloc | apply pw_below_drewN | apply below_drew1) | exact HB.out)⟩⟩
                                  case rest =>
                                    clear HC24
                                    try clear c1
                                    try clear p1
                                    try clear q1
                                    try clear hx1
                                    try clear c2
                                    try clear p2
                                    try clear c3
                                    try clear c6
                                    try clear p6
                                    try clear c8
                                    try clear c14
                                    try clear c15
                                    try clear c15b0
                                    try clear c16
                                    try clear c16b0
                                    try clear p16
                                    try clear q16
                                    try clear hx16
                                    try clear c17
                                    try clear c17b0
                                    try clear c18
                                    try clear c18b0
                                    try clear c18b1
                                    try clear c19
                                    try clear c19b0
                                    try clear c20
                                    try clear c20b0
                                    try clear c21
                                    try clear c21b0
                                    try clear c23
                                    try clear c23b0
                                    try clear c23b1
                                    try clear c25
                                    try clear c25b0
                                    try clear c27
                                    try clear c27b0
                                    try clear c28
                                    try clear c28b0
                                    try clear c29
                                    try clear c29b0
                                    try clear c30
                                    try clear c30b0
                                    try clear c31
                                    try clear hx164_0
                                    try clear hx165_0
                                    try clear hx166_0
                                    try clear hx167_0
                                    try clear p1
                                    try clear p16
                                    try clear p164
                                    try clear p165
                                    try clear p166
                                    try clear p167
                                    try clear p2
                                    try clear p6
                                    try clear q1
                                    try clear q16
                                    try clear q164
                                    try clear q165
                                    try clear q166
                                    try clear q167
                                    obtain ⟨kq, x12_23, rfl, HA, HJ23, HB⟩ := hcut
                                    cases kq with
                                    | zero => exact absurd HA.out (by simp [fingerprint_Bound.j4])
                                    | succ kj23 =>
                                      have H := HA.out
                                      clear HA
                                      simp only [fingerprint_Bound.j4] at H
                                      have HC32 := Aside0.mk H
                                      clear H
                                      go_upto_if 65 with (fail)
                                      repeat (go_quiet (fail); go_upto_if 65 with (fail))
                                      go_cut [12] (fun v12 wc => ∃ (kq : Nat) (x12_31 : Int), v12 = .int .i64 x12_31 ∧ Aside0 (fingerprint_Bound.j5 kq l0 l1 l2 x31_2 (rd_L1 l2 x31_2) x44_3 (rd (rd_L1 l2 x31_2) x44_3) x12_31 l2 (l2.length : Int) x31_2 (rd_L1 l2 x31_2) ((rd_L1 l2 x31_2).length : Int) x44_3 = some (r1, r2)) ∧ Aside0 (kq ≤ kj23) ∧ Aside0 (Below w.heap.size w wc))
                                      case first =>
                                        have H := HC32.out
                                        clear HC32
                                        by_cases c33 : x44_3 > 0
                                        · rw [if_pos c33] at H
                                          have c33b0 : decide (0 < x44_3) = true := decide_eq_true c33
                                          clear c33
                                          (first | rw [c33b0] | (simp only [i64_w, i32_w]; rw [c33b0]) | skip)
                                          obtain ⟨ji34, hji34⟩ : ∃ j_ : Int, (wrap64 (x44_3 - 1)) = j_ := ⟨_, rfl⟩
                                          replace H : (if 0 ≤ (ji34) then (if (ji34) < ((rd_L1 l2 x31_2).length : Int) then (fingerprint_Bound.j5 kj23 l0 l1 l2 x31_2 (rd_L1 l2 x31_2) x44_3 (rd (rd_L1 l2 x31_2) x44_3) (mn x12_23 (wrap64 ((rd (rd_L1 l2 x31_2) (ji34)) + 1))) l2 (l2.length : Int) x31_2 (rd_L1 l2 x31_2) ((rd_L1 l2 x31_2).length : Int) x44_3) else (none)) else (none)) = some (r1, r2) := by first | (rw [hji34] at H; exact H) | (simp only [hji34] at H ⊢; exact H)
                                          have hji34w : (IntKind.i64.wrap (x44_3 - 1)) = ji34 := (i64_w _).trans hji34
                                          by_cases c35 : 0 ≤ (ji34)
                                          · rw [if_pos c35] at H
                                            have c35b0 : decide (0 ≤ (ji34)) = true := decide_eq_true c35
                                            clear c35
                                            by_cases c36 : (ji34) < ((rd_L1 l2 x31_2).length : Int)
                                            · rw [if_pos c36] at H
                                              have c36b0 : decide ((ji34) < ((rd_L1 l2 x31_2).length : Int)) = true := decide_eq_true c36
                                              clear c36
                                              obtain ⟨ji37, hji37⟩ : ∃ j_ : Int, (mn x12_23 (wrap64 ((rd (rd_L1 l2 x31_2) (ji34)) + 1))) = j_ := ⟨_, rfl⟩
                                              replace H : (fingerprint_Bound.j5 kj23 l0 l1 l2 x31_2 (rd_L1 l2 x31_2) x44_3 (rd (rd_L1 l2 x31_2) x44_3) ji37 l2 (l2.length : Int) x31_2 (rd_L1 l2 x31_2) ((rd_L1 l2 x31_2).length : Int) x44_3) = some (r1, r2) := by first | (rw [hji37] at H; exact H) | (simp only [hji37] at H ⊢; exact H)
                                              have hji37_ : (if (wrap64 ((rd (rd_L1 l2 x31_2) (ji34)) + 1)) < x12_23 then (wrap64 ((rd (rd_L1 l2 x31_2) (ji34)) + 1)) else x12_23) = ji37 := hji37
                                              have H' := Aside0.mk H
                                              clear H
                                              have p168 : 0 ≤ ((ji34) : Int) := of_decide_eq_true (by first | (with_reducible assumption) | assumption)
                                              have q168 : (ji34) < ((rd_L1 l2 x31_2).length : Int) := of_decide_eq_true (by first | (with_reducible assumption) | assumption)
                                              obtain ⟨ad168, e168, hx168_0⟩ := Kd.at_int HR164_0.out (ji34) p168 q168
                                              obtain rfl : ad165 = ad168 := (by injection e168)
                                              replace hx168_0 := (HB.out.cell (World.block_lt_of_cell? w _ hx168_0)).trans hx168_0
                                              replace p168 := eq_true p168
                                              replace q168 := eq_true q168
                                              go_wp2
                                              repeat (go_quiet (fail); try go_wp2)
                                              go_meet
                                              case rel => exact ⟨_, (ji37), (by first | rfl | (simp; done) | (simp only [← hji37] <;> (first | rfl | simp)) | (simp [*]; done)), H', ⟨by have := HJ3.out; have := HK2.out; have := HK3.out; have := HJ21.out; have := HJ23.out; first | omega | exact Nat.le_refl _⟩, ⟨by repeat (first | (with_reducible first | exact HB.out | apply below_alloc | apply pw_below_drewN | apply below_drew1) | exact HB.out)⟩⟩
                                            · rw [if_neg c36] at H
                                              exact absurd H (by simp)
                                          · rw [if_neg c35] at H
                                            exact absurd H (by simp)
                                        · rw [if_neg c33] at H
                                          have c33b0 : decide (0 < x44_3) = false := decide_eq_false c33
                                          clear c33
                                          (first | rw [c33b0] | (simp only [i64_w, i32_w]; rw [c33b0]) | skip)
                                          have H' := Aside0.mk H
                                          clear H
                                          go_wp2
                                          repeat (go_quiet (fail); try go_wp2)
                                          go_meet
                                          case rel => exact ⟨_, (x12_23), (by first | rfl | (simp; done) | (simp [*]; done)), H', ⟨by have := HJ3.out; have := HK2.out; have := HK3.out; have := HJ21.out; have := HJ23.out; first | omega | exact Nat.le_refl _⟩, ⟨by repeat (first | (with_reducible first | exact HB.out | apply below_alloc | apply pw_below_drewN | apply below_drew1) | exact HB.out)⟩⟩
                                      case rest =>
                                        clear HC32
                                        try clear c1
                                        try clear p1
                                        try clear q1
                                        try clear hx1
                                        try clear c2
                                        try clear p2
                                        try clear c3
                                        try clear c6
                                        try clear p6
                                        try clear c8
                                        try clear c14
                                        try clear c15
                                        try clear c15b0
                                        try clear c16
                                        try clear c16b0
                                        try clear p16
                                        try clear q16
                                        try clear hx16
                                        try clear c17
                                        try clear c17b0
                                        try clear c18
                                        try clear c18b0
                                        try clear c18b1
                                        try clear c19
                                        try clear c19b0
                                        try clear c20
                                        try clear c20b0
                                        try clear c21
                                        try clear c21b0
                                        try clear c23
                                        try clear c23b0
                                        try clear c23b1
                                        try clear c25
                                        try clear c25b0
                                        try clear c27
                                        try clear c27b0
                                        try clear c28
                                        try clear c28b0
                                        try clear c29
                                        try clear c29b0
                                        try clear c30
                                        try clear c30b0
                                        try clear c31
                                        try clear c33
                                        try clear c33b0
                                        try clear c35
                                        try clear c35b0
                                        try clear c36
                                        try clear c36b0
                                        try clear hx164_0
                                        try clear hx165_0
                                        try clear hx166_0
                                        try clear hx167_0
                                        try clear hx168_0
                                        try clear p1
                                        try clear p16
                                        try clear p164
                                        try clear p165
                                        try clear p166
                                        try clear p167
                                        try clear p168
                                        try clear p2
                                        try clear p6
                                        try clear q1
                                        try clear q16
                                        try clear q164
                                        try clear q165
                                        try clear q166
                                        try clear q167
                                        try clear q168
                                        obtain ⟨kq, x12_31, rfl, HA, HJ31, HB⟩ := hcut
                                        cases kq with
                                        | zero => exact absurd HA.out (by simp [fingerprint_Bound.j5])
                                        | succ kj31 =>
                                          have H := HA.out
                                          clear HA
                                          simp only [fingerprint_Bound.j5] at H
                                          have HC38 := Aside0.mk H
                                          clear H
                                          go_upto_region 18 with (fail)
                                          repeat (go_quiet (fail); go_upto_region 18 with (fail))
                                          go_cut [92] (fun v92 wc => ∃ (kq : Nat) (x92_37 : Bool), v92 = .bool x92_37 ∧ Aside0 (fingerprint_Bound.j6 kq l0 l1 l2 x31_2 (rd_L1 l2 x31_2) x44_3 (rd (rd_L1 l2 x31_2) x44_3) x12_31 l2 (l2.length : Int) x31_2 (rd_L1 l2 x31_2) ((rd_L1 l2 x31_2).length : Int) x44_3 x92_37 = some (r1, r2)) ∧ Aside0 (kq ≤ kj31) ∧ Aside0 (Below w.heap.size w wc))
                                          case first =>
                                            have H := HC38.out
                                            clear HC38
                                            by_cases c39 : x31_2 > 0
                                            · rw [if_pos c39] at H
                                              have c39b0 : decide (0 < x31_2) = true := decide_eq_true c39
                                              clear c39
                                              (first | rw [c39b0] | (simp only [i64_w, i32_w]; rw [c39b0]) | skip)
                                              by_cases c40 : x44_3 > 0
                                              · rw [if_pos c40] at H
                                                have c40b0 : decide (0 < x44_3) = true := decide_eq_true c40
                                                clear c40
                                                obtain ⟨ji41, hji41⟩ : ∃ j_ : Int, (wrap64 (x31_2 - 1)) = j_ := ⟨_, rfl⟩
                                                replace H : (if 0 ≤ (ji41) then (if (ji41) < (l0.length : Int) then (if 0 ≤ (wrap64 (x44_3 - 1)) then (if (wrap64 (x44_3 - 1)) < (l1.length : Int) then (fingerprint_Bound.j6 kj31 l0 l1 l2 x31_2 (rd_L1 l2 x31_2) x44_3 (rd (rd_L1 l2 x31_2) x44_3) x12_31 l2 (l2.length : Int) x31_2 (rd_L1 l2 x31_2) ((rd_L1 l2 x31_2).length : Int) x44_3 ((rd l0 (ji41)) == (rd l1 (wrap64 (x44_3 - 1))))) else (none)) else (none)) else (none)) else (none)) = some (r1, r2) := by first | (rw [hji41] at H; exact H) | (simp only [hji41] at H ⊢; exact H)
                                                have hji41w : (IntKind.i64.wrap (x31_2 - 1)) = ji41 := (i64_w _).trans hji41
                                                by_cases c42 : 0 ≤ (ji41)
                                                · rw [if_pos c42] at H
                                                  have c42b0 : decide (0 ≤ (ji41)) = true := decide_eq_true c42
                                                  clear c42
                                                  by_cases c43 : (ji41) < (l0.length : Int)
                                                  · rw [if_pos c43] at H
                                                    have c43b0 : decide ((ji41) < (l0.length : Int)) = true := decide_eq_true c43
                                                    clear c43
                                                    obtain ⟨ji44, hji44⟩ : ∃ j_ : Int, (wrap64 (x44_3 - 1)) = j_ := ⟨_, rfl⟩
                                                    replace H : (if 0 ≤ (ji44) then (if (ji44) < (l1.length : Int) then (fingerprint_Bound.j6 kj31 l0 l1 l2 x31_2 (rd_L1 l2 x31_2) x44_3 (rd (rd_L1 l2 x31_2) x44_3) x12_31 l2 (l2.length : Int) x31_2 (rd_L1 l2 x31_2) ((rd_L1 l2 x31_2).length : Int) x44_3 ((rd l0 (ji41)) == (rd l1 (ji44)))) else (none)) else (none)) = some (r1, r2) := by first | (rw [hji44] at H; exact H) | (simp only [hji44] at H ⊢; exact H)
                                                    have hji44w : (IntKind.i64.wrap (x44_3 - 1)) = ji44 := (i64_w _).trans hji44
                                                    by_cases c45 : 0 ≤ (ji44)
                                                    · rw [if_pos c45] at H
                                                      have c45b0 : decide (0 ≤ (ji44)) = true := decide_eq_true c45
                                                      clear c45
                                                      by_cases c46 : (ji44) < (l1.length : Int)
                                                      · rw [if_pos c46] at H
                                                        have c46b0 : decide ((ji44) < (l1.length : Int)) = true := decide_eq_true c46
                                                        clear c46
                                                        have H' := Aside0.mk H
                                                        clear H
                                                        have p169 : 0 ≤ ((ji41) : Int) := of_decide_eq_true (by first | (with_reducible assumption) | assumption)
                                                        have q169 : (ji41) < (l0.length : Int) := of_decide_eq_true (by first | (with_reducible assumption) | assumption)
                                                        obtain ⟨ad169, e169, hx169_0⟩ := Kd.at_int HR0.out (ji41) p169 q169
                                                        cases e169
                                                        replace hx169_0 := (HB.out.cell (World.block_lt_of_cell? w _ hx169_0)).trans hx169_0
                                                        replace p169 := eq_true p169
                                                        replace q169 := eq_true q169
                                                        have p170 : 0 ≤ ((ji44) : Int) := of_decide_eq_true (by first | (with_reducible assumption) | assumption)
                                                        have q170 : (ji44) < (l1.length : Int) := of_decide_eq_true (by first | (with_reducible assumption) | assumption)
                                                        obtain ⟨ad170, e170, hx170_0⟩ := Kd.at_int HR1.out (ji44) p170 q170
                                                        cases e170
                                                        replace hx170_0 := (HB.out.cell (World.block_lt_of_cell? w _ hx170_0)).trans hx170_0
                                                        replace p170 := eq_true p170
                                                        replace q170 := eq_true q170
                                                        go_wp2
                                                        repeat (go_quiet (fail); try go_wp2)
                                                        go_meet
                                                        case rel => exact ⟨_, (((rd l0 (ji41)) == (rd l1 (ji44)))), (by first | rfl | (simp; done) | (simp only [← hji41, ← hji44] <;> (first | rfl | simp)) | (simp [*]; done)), H', ⟨by have := HJ3.out; have := HK2.out; have := HK3.out; have := HJ21.out; have := HJ23.out; have := HJ31.out; first | omega | exact Nat.le_refl _⟩, ⟨by repeat (first | (with_reducible first | exact HB.out | apply below_alloc | apply pw_below_drewN | apply below_drew1) | exact HB.out)⟩⟩
                                                      · rw [if_neg c46] at H
                                                        exact absurd H (by simp)
                                                    · rw [if_neg c45] at H
                                                      exact absurd H (by simp)
                                                  · rw [if_neg c43] at H
                                                    exact absurd H (by simp)
                                                · rw [if_neg c42] at H
                                                  exact absurd H (by simp)
                                              · rw [if_neg c40] at H
                                                have c40b0 : decide (0 < x44_3) = false := decide_eq_false c40
                                                clear c40
                                                have H' := Aside0.mk H
                                                clear H
                                                go_wp2
                                                repeat (go_quiet (fail); try go_wp2)
                                                go_meet
                                                case rel => exact ⟨_, (false), (by first | rfl | (simp; done) | (simp [*]; done)), H', ⟨by have := HJ3.out; have := HK2.out; have := HK3.out; have := HJ21.out; have := HJ23.out; have := HJ31.out; first | omega | exact Nat.le_refl _⟩, ⟨by repeat (first | (with_reducible first | exact HB.out | apply below_alloc | apply pw_below_drewN | apply below_drew1) | exact HB.out)⟩⟩
                                            · rw [if_neg c39] at H
                                              have c39b0 : decide (0 < x31_2) = false := decide_eq_false c39
                                              clear c39
                                              (first | rw [c39b0] | (simp only [i64_w, i32_w]; rw [c39b0]) | skip)
                                              have H' := Aside0.mk H
                                              clear H
                                              go_wp2
                                              repeat (go_quiet (fail); try go_wp2)
                                              go_meet
                                              case rel => exact ⟨_, (false), (by first | rfl | (simp; done) | (simp [*]; done)), H', ⟨by have := HJ3.out; have := HK2.out; have := HK3.out; have := HJ21.out; have := HJ23.out; have := HJ31.out; first | omega | exact Nat.le_refl _⟩, ⟨by repeat (first | (with_reducible first | exact HB.out | apply below_alloc | apply pw_below_drewN | apply below_drew1) | exact HB.out)⟩⟩
                                          case rest =>
                                            clear HC38
                                            try clear c1
                                            try clear p1
                                            try clear q1
                                            try clear hx1
                                            try clear c2
                                            try clear p2
                                            try clear c3
                                            try clear c4
                                            try clear c6
                                            try clear p6
                                            try clear c8
                                            try clear c14
                                            try clear c15
                                            try clear c15b0
                                            try clear c16
                                            try clear c16b0
                                            try clear p16
                                            try clear q16
                                            try clear hx16
                                            try clear c17
                                            try clear c17b0
                                            try clear p17
                                            try clear q17
                                            try clear hx17
                                            try clear c18
                                            try clear c18b0
                                            try clear c18b1
                                            try clear c19
                                            try clear c19b0
                                            try clear c20
                                            try clear c20b0
                                            try clear c21
                                            try clear c21b0
                                            try clear c23
                                            try clear c23b0
                                            try clear c23b1
                                            try clear c25
                                            try clear c25b0
                                            try clear c27
                                            try clear c27b0
                                            try clear c28
                                            try clear c28b0
                                            try clear c29
                                            try clear c29b0
                                            try clear c30
                                            try clear c30b0
                                            try clear c31
                                            try clear c33
                                            try clear c33b0
                                            try clear c35
                                            try clear c35b0
                                            try clear c36
                                            try clear c36b0
                                            try clear c39
                                            try clear c39b0
                                            try clear c40
                                            try clear c40b0
                                            try clear c42
                                            try clear c42b0
                                            try clear c43
                                            try clear c43b0
                                            try clear c45
                                            try clear c45b0
                                            try clear c46
                                            try clear c46b0
                                            try clear hx164_0
                                            try clear hx165_0
                                            try clear hx166_0
                                            try clear hx167_0
                                            try clear hx168_0
                                            try clear hx169_0
                                            try clear hx170_0
                                            try clear p1
                                            try clear p16
                                            try clear p164
                                            try clear p165
                                            try clear p166
                                            try clear p167
                                            try clear p168
                                            try clear p169
                                            try clear p170
                                            try clear p2
                                            try clear p6
                                            try clear q1
                                            try clear q16
                                            try clear q164
                                            try clear q165
                                            try clear q166
                                            try clear q167
                                            try clear q168
                                            try clear q169
                                            try clear q170
                                            obtain ⟨kq, x92_37, rfl, HA, HJ37, HB⟩ := hcut
                                            cases kq with
                                            | zero => exact absurd HA.out (by simp [fingerprint_Bound.j6])
                                            | succ kj37 =>
                                              have H := HA.out
                                              clear HA
                                              simp only [fingerprint_Bound.j6] at H
                                              by_cases c47 : x92_37 = true
                                              · subst c47
                                                have H1 : (if 0 ≤ (wrap64 (x31_2 - 1)) then (if (wrap64 (x31_2 - 1)) < (l2.length : Int) then (if 0 ≤ (wrap64 (x44_3 - 1)) then (if (wrap64 (x44_3 - 1)) < ((rd_L1 l2 (wrap64 (x31_2 - 1))).length : Int) then (if (rd (rd_L1 l2 x31_2) x44_3) < (-1000) then (some (0, false)) else (if (rd (rd_L1 l2 x31_2) x44_3) > (mn x12_31 (rd (rd_L1 l2 (wrap64 (x31_2 - 1))) (wrap64 (x44_3 - 1)))) then (some (0, false)) else (fingerprint_Bound.l1 kj37 l0 l1 l2 x31_2 (rd_L1 l2 x31_2) l2 (l2.length : Int) x31_2 (rd_L1 l2 x31_2) ((rd_L1 l2 x31_2).length : Int) (wrap64 (x44_3 + 1))))) else (none)) else (none)) else (none)) else (none)) = some (r1, r2) := by rw [if_pos rfl] at H; exact H
                                                clear H
                                                have H := H1
                                                clear H1
                                                obtain ⟨ji48, hji48⟩ : ∃ j_ : Int, (wrap64 (x31_2 - 1)) = j_ := ⟨_, rfl⟩
                                                replace H : (if 0 ≤ (ji48) then (if (ji48) < (l2.length : Int) then (if 0 ≤ (wrap64 (x44_3 - 1)) then (if (wrap64 (x44_3 - 1)) < ((rd_L1 l2 (ji48)).length : Int) then (if (rd (rd_L1 l2 x31_2) x44_3) < (-1000) then (some (0, false)) else (if (rd (rd_L1 l2 x31_2) x44_3) > (mn x12_31 (rd (rd_L1 l2 (ji48)) (wrap64 (x44_3 - 1)))) then (some (0, false)) else (fingerprint_Bound.l1 kj37 l0 l1 l2 x31_2 (rd_L1 l2 x31_2) l2 (l2.length : Int) x31_2 (rd_L1 l2 x31_2) ((rd_L1 l2 x31_2).length : Int) (wrap64 (x44_3 + 1))))) else (none)) else (none)) else (none)) else (none)) = some (r1, r2) := by first | (rw [hji48] at H; exact H) | (simp only [hji48] at H ⊢; exact H)
                                                have hji48w : (IntKind.i64.wrap (x31_2 - 1)) = ji48 := (i64_w _).trans hji48
                                                by_cases c49 : 0 ≤ (ji48)
                                                · rw [if_pos c49] at H
                                                  have c49b0 : decide (0 ≤ (ji48)) = true := decide_eq_true c49
                                                  clear c49
                                                  by_cases c50 : (ji48) < (l2.length : Int)
                                                  · rw [if_pos c50] at H
                                                    have c50b0 : decide ((ji48) < (l2.length : Int)) = true := decide_eq_true c50
                                                    clear c50
                                                    obtain ⟨ji51, hji51⟩ : ∃ j_ : Int, (wrap64 (x44_3 - 1)) = j_ := ⟨_, rfl⟩
                                                    replace H : (if 0 ≤ (ji51) then (if (ji51) < ((rd_L1 l2 (ji48)).length : Int) then (if (rd (rd_L1 l2 x31_2) x44_3) < (-1000) then (some (0, false)) else (if (rd (rd_L1 l2 x31_2) x44_3) > (mn x12_31 (rd (rd_L1 l2 (ji48)) (ji51))) then (some (0, false)) else (fingerprint_Bound.l1 kj37 l0 l1 l2 x31_2 (rd_L1 l2 x31_2) l2 (l2.length : Int) x31_2 (rd_L1 l2 x31_2) ((rd_L1 l2 x31_2).length : Int) (wrap64 (x44_3 + 1))))) else (none)) else (none)) = some (r1, r2) := by first | (rw [hji51] at H; exact H) | (simp only [hji51] at H ⊢; exact H)
                                                    have hji51w : (IntKind.i64.wrap (x44_3 - 1)) = ji51 := (i64_w _).trans hji51
                                                    by_cases c52 : 0 ≤ (ji51)
                                                    · rw [if_pos c52] at H
                                                      have c52b0 : decide (0 ≤ (ji51)) = true := decide_eq_true c52
                                                      clear c52
                                                      by_cases c53 : (ji51) < ((rd_L1 l2 (ji48)).length : Int)
                                                      · rw [if_pos c53] at H
                                                        have c53b0 : decide ((ji51) < ((rd_L1 l2 (ji48)).length : Int)) = true := decide_eq_true c53
                                                        clear c53
                                                        obtain ⟨ji54, hji54⟩ : ∃ j_ : Int, (mn x12_31 (rd (rd_L1 l2 (ji48)) (ji51))) = j_ := ⟨_, rfl⟩
                                                        replace H : (if (rd (rd_L1 l2 x31_2) x44_3) < (-1000) then (some (0, false)) else (if (rd (rd_L1 l2 x31_2) x44_3) > (ji54) then (some (0, false)) else (fingerprint_Bound.l1 kj37 l0 l1 l2 x31_2 (rd_L1 l2 x31_2) l2 (l2.length : Int) x31_2 (rd_L1 l2 x31_2) ((rd_L1 l2 x31_2).length : Int) (wrap64 (x44_3 + 1))))) = some (r1, r2) := by first | (rw [hji54] at H; exact H) | (simp only [hji54] at H ⊢; exact H)
                                                        have hji54_ : (if (rd (rd_L1 l2 (ji48)) (ji51)) < x12_31 then (rd (rd_L1 l2 (ji48)) (ji51)) else x12_31) = ji54 := hji54
                                                        by_cases c55 : (rd (rd_L1 l2 x31_2) x44_3) < (-1000)
                                                        · rw [if_pos c55] at H
                                                          have c55b0 : decide ((rd (rd_L1 l2 x31_2) x44_3) < (-1000)) = true := decide_eq_true c55
                                                          clear c55
                                                          simp only [Option.some.injEq, Prod.mk.injEq] at H
                                                          obtain ⟨rfl, rfl⟩ := H
                                                          have p171 : 0 ≤ ((ji48) : Int) := of_decide_eq_true (by first | (with_reducible assumption) | assumption)
                                                          have q171 : (ji48) < (l2.length : Int) := of_decide_eq_true (by first | (with_reducible assumption) | assumption)
                                                          obtain ⟨ad171, A171_0, c171_0, e171, hx171_0, hl171_0, hi171_0⟩ := at_L1 HR2.out (ji48) p171 q171
                                                          obtain rfl : ad164 = ad171 := (by injection e171)
                                                          replace hx171_0 := (HB.out.cell (World.block_lt_of_cell? w _ hx171_0)).trans hx171_0
                                                          have HR171_0 := Aside0.mk hi171_0
                                                          have HC171_0 := Aside0.mk hl171_0
                                                          clear hi171_0 hl171_0
                                                          replace p171 := eq_true p171
                                                          replace q171 := eq_true q171
                                                          have p172 : 0 ≤ ((ji51) : Int) := of_decide_eq_true (by first | (with_reducible assumption) | assumption)
                                                          have q172 : (ji51) < ((rd_L1 l2 (ji48)).length : Int) := of_decide_eq_true (by first | (with_reducible assumption) | assumption)
                                                          obtain ⟨ad172, e172, hx172_0⟩ := Kd.at_int HR171_0.out (ji51) p172 q172
                                                          cases e172
                                                          replace hx172_0 := (HB.out.cell (World.block_lt_of_cell? w _ hx172_0)).trans hx172_0
                                                          replace p172 := eq_true p172
                                                          replace q172 := eq_true q172
                                                          go_wp2
                                                          repeat (go_quiet (fail); try go_wp2)
                                                          go_ret2
                                                          exact ⟨by first | rfl | (simp [errW_none, errW_some] <;> rfl) | (simp only [← hji48, ← hji51, ← hji54]; first | rfl | (simp [errW_none, errW_some] <;> rfl)) | (simp [*, errW_none, errW_some] <;> rfl), by repeat (first | (with_reducible first | exact HB.out | apply below_alloc | apply pw_below_drewN | apply below_drew1) | exact HB.out)⟩
                                                        · rw [if_neg c55] at H
                                                          have c55b0 : decide ((rd (rd_L1 l2 x31_2) x44_3) < (-1000)) = false := decide_eq_false c55
                                                          clear c55
                                                          by_cases c56 : (rd (rd_L1 l2 x31_2) x44_3) > (ji54)
                                                          · rw [if_pos c56] at H
                                                            have c56b0 : decide ((ji54) < (rd (rd_L1 l2 x31_2) x44_3)) = true := decide_eq_true c56
                                                            clear c56
                                                            simp only [Option.some.injEq, Prod.mk.injEq] at H
                                                            obtain ⟨rfl, rfl⟩ := H
                                                            have p171 : 0 ≤ ((ji48) : Int) := of_decide_eq_true (by first | (with_reducible assumption) | assumption)
                                                            have q171 : (ji48) < (l2.length : Int) := of_decide_eq_true (by first | (with_reducible assumption) | assumption)
                                                            obtain ⟨ad171, A171_0, c171_0, e171, hx171_0, hl171_0, hi171_0⟩ := at_L1 HR2.out (ji48) p171 q171
                                                            obtain rfl : ad164 = ad171 := (by injection e171)
                                                            replace hx171_0 := (HB.out.cell (World.block_lt_of_cell? w _ hx171_0)).trans hx171_0
                                                            have HR171_0 := Aside0.mk hi171_0
                                                            have HC171_0 := Aside0.mk hl171_0
                                                            clear hi171_0 hl171_0
                                                            replace p171 := eq_true p171
                                                            replace q171 := eq_true q171
                                                            have p172 : 0 ≤ ((ji51) : Int) := of_decide_eq_true (by first | (with_reducible assumption) | assumption)
                                                            have q172 : (ji51) < ((rd_L1 l2 (ji48)).length : Int) := of_decide_eq_true (by first | (with_reducible assumption) | assumption)
                                                            obtain ⟨ad172, e172, hx172_0⟩ := Kd.at_int HR171_0.out (ji51) p172 q172
                                                            cases e172
                                                            replace hx172_0 := (HB.out.cell (World.block_lt_of_cell? w _ hx172_0)).trans hx172_0
                                                            replace p172 := eq_true p172
                                                            replace q172 := eq_true q172
                                                            go_wp2
                                                            repeat (go_quiet (fail); try go_wp2)
                                                            go_ret2
                                                            exact ⟨by first | rfl | (simp [errW_none, errW_some] <;> rfl) | (simp only [← hji48, ← hji51, ← hji54]; first | rfl | (simp [errW_none, errW_some] <;> rfl)) | (simp [*, errW_none, errW_some] <;> rfl), by repeat (first | (with_reducible first | exact HB.out | apply below_alloc | apply pw_below_drewN | apply below_drew1) | exact HB.out)⟩
                                                          · rw [if_neg c56] at H
                                                            have c56b0 : decide ((ji54) < (rd (rd_L1 l2 x31_2) x44_3)) = false := decide_eq_false c56
                                                            clear c56
                                                            have H' := Aside0.mk H
                                                            clear H
                                                            have p171 : 0 ≤ ((ji48) : Int) := of_decide_eq_true (by first | (with_reducible assumption) | assumption)
                                                            have q171 : (ji48) < (l2.length : Int) := of_decide_eq_true (by first | (with_reducible assumption) | assumption)
                                                            obtain ⟨ad171, A171_0, c171_0, e171, hx171_0, hl171_0, hi171_0⟩ := at_L1 HR2.out (ji48) p171 q171
                                                            obtain rfl : ad164 = ad171 := (by injection e171)
                                                            replace hx171_0 := (HB.out.cell (World.block_lt_of_cell? w _ hx171_0)).trans hx171_0
                                                            have HR171_0 := Aside0.mk hi171_0
                                                            have HC171_0 := Aside0.mk hl171_0
                                                            clear hi171_0 hl171_0
                                                            replace p171 := eq_true p171
                                                            replace q171 := eq_true q171
                                                            have p172 : 0 ≤ ((ji51) : Int) := of_decide_eq_true (by first | (with_reducible assumption) | assumption)
                                                            have q172 : (ji51) < ((rd_L1 l2 (ji48)).length : Int) := of_decide_eq_true (by first | (with_reducible assumption) | assumption)
                                                            obtain ⟨ad172, e172, hx172_0⟩ := Kd.at_int HR171_0.out (ji51) p172 q172
                                                            cases e172
                                                            replace hx172_0 := (HB.out.cell (World.block_lt_of_cell? w _ hx172_0)).trans hx172_0
                                                            replace p172 := eq_true p172
                                                            replace q172 := eq_true q172
                                                            go_wp2
                                                            repeat (go_quiet (fail); try go_wp2)
                                                            go_roundg kj37
                                                            case measure => have := HJ3.out; have := HK2.out; have := HK3.out; have := HJ21.out; have := HJ23.out; have := HJ31.out; have := HJ37.out; omega
                                                            case rel => exact ⟨(wrap64 (x44_3 + 1)), (by first | rfl | (simp; done) | (simp [*]; done)), H', ⟨by have := HJ3.out; have := HK2.out; have := HK3.out; have := HJ21.out; have := HJ23.out; have := HJ31.out; have := HJ37.out; omega⟩, ⟨by repeat (first | (with_reducible first | exact HB.out | apply below_alloc | apply pw_below_drewN | apply below_drew1) | exact HB.out)⟩⟩
                                                      · rw [if_neg c53] at H
                                                        exact absurd H (by simp)
                                                    · rw [if_neg c52] at H
                                                      exact absurd H (by simp)
                                                  · rw [if_neg c50] at H
                                                    exact absurd H (by simp)
                                                · rw [if_neg c49] at H
                                                  exact absurd H (by simp)
                                              · replace c47 := Bool.eq_false_iff.mpr c47
                                                subst c47
                                                have H1 : (if x31_2 > 0 then (fingerprint_Bound.j7 kj37 l0 l1 l2 x31_2 (rd_L1 l2 x31_2) x44_3 (rd (rd_L1 l2 x31_2) x44_3) x12_31 l2 (l2.length : Int) x31_2 (rd_L1 l2 x31_2) ((rd_L1 l2 x31_2).length : Int) x44_3 (decide (x44_3 > 0))) else (fingerprint_Bound.j7 kj37 l0 l1 l2 x31_2 (rd_L1 l2 x31_2) x44_3 (rd (rd_L1 l2 x31_2) x44_3) x12_31 l2 (l2.length : Int) x31_2 (rd_L1 l2 x31_2) ((rd_L1 l2 x31_2).length : Int) x44_3 false)) = some (r1, r2) := by rw [if_neg (show ¬ (false = true) by decide)] at H; exact H
                                                clear H
                                                have H := H1
                                                clear H1
                                                have HC57 := Aside0.mk H
                                                clear H
                                                go_upto_region 20 with (fail)
                                                repeat (go_quiet (fail); go_upto_region 20 with (fail))
                                                go_cut [109] (fun v109 wc => ∃ (kq : Nat) (x109_56 : Bool), v109 = .bool x109_56 ∧ Aside0 (fingerprint_Bound.j7 kq l0 l1 l2 x31_2 (rd_L1 l2 x31_2) x44_3 (rd (rd_L1 l2 x31_2) x44_3) x12_31 l2 (l2.length : Int) x31_2 (rd_L1 l2 x31_2) ((rd_L1 l2 x31_2).length : Int) x44_3 x109_56 = some (r1, r2)) ∧ Aside0 (kq ≤ kj37) ∧ Aside0 (Below w.heap.size w wc))
                                                case first =>
                                                  have H := HC57.out
                                                  clear HC57
                                                  by_cases c58 : x31_2 > 0
                                                  · rw [if_pos c58] at H
                                                    have c58b0 : decide (0 < x31_2) = true := decide_eq_true c58
                                                    clear c58
                                                    (first | rw [c58b0] | (simp only [i64_w, i32_w]; rw [c58b0]) | skip)
                                                    have H' := Aside0.mk H
                                                    clear H
                                                    go_wp2
                                                    repeat (go_quiet (fail); try go_wp2)
                                                    go_meet
                                                    case rel => exact ⟨_, (decide (x44_3 > 0)), (by first | rfl | (simp; done) | (simp [*]; done)), H', ⟨by have := HJ3.out; have := HK2.out; have := HK3.out; have := HJ21.out; have := HJ23.out; have := HJ31.out; have := HJ37.out; first | omega | exact Nat.le_refl _⟩, ⟨by repeat (first | (with_reducible first | exact HB.out | apply below_alloc | apply pw_below_drewN | apply below_drew1) | exact HB.out)⟩⟩
                                                  · rw [if_neg c58] at H
                                                    have c58b0 : decide (0 < x31_2) = false := decide_eq_false c58
                                                    clear c58
                                                    (first | rw [c58b0] | (simp only [i64_w, i32_w]; rw [c58b0]) | skip)
                                                    have H' := Aside0.mk H
                                                    clear H
                                                    go_wp2
                                                    repeat (go_quiet (fail); try go_wp2)
                                                    go_meet
                                                    case rel => exact ⟨_, (false), (by first | rfl | (simp; done) | (simp [*]; done)), H', ⟨by have := HJ3.out; have := HK2.out; have := HK3.out; have := HJ21.out; have := HJ23.out; have := HJ31.out; have := HJ37.out; first | omega | exact Nat.le_refl _⟩, ⟨by repeat (first | (with_reducible first | exact HB.out | apply below_alloc | apply pw_below_drewN | apply below_drew1) | exact HB.out)⟩⟩
                                                case rest =>
                                                  clear HC57
                                                  try clear c1
                                                  try clear p1
                                                  try clear q1
                                                  try clear hx1
                                                  try clear c2
                                                  try clear p2
                                                  try clear c3
                                                  try clear c4
                                                  try clear c5
                                                  try clear c6
                                                  try clear p6
                                                  try clear c8
                                                  try clear c14
                                                  try clear c15
                                                  try clear c15b0
                                                  try clear c16
                                                  try clear c16b0
                                                  try clear p16
                                                  try clear q16
                                                  try clear hx16
                                                  try clear c17
                                                  try clear c17b0
                                                  try clear p17
                                                  try clear q17
                                                  try clear hx17
                                                  try clear c18
                                                  try clear c18b0
                                                  try clear c18b1
                                                  try clear c19
                                                  try clear c19b0
                                                  try clear c20
                                                  try clear c20b0
                                                  try clear c21
                                                  try clear c21b0
                                                  try clear c23
                                                  try clear c23b0
                                                  try clear c23b1
                                                  try clear c25
                                                  try clear c25b0
                                                  try clear c27
                                                  try clear c27b0
                                                  try clear c28
                                                  try clear c28b0
                                                  try clear c29
                                                  try clear c29b0
                                                  try clear c30
                                                  try clear c30b0
                                                  try clear c31
                                                  try clear c33
                                                  try clear c33b0
                                                  try clear c35
                                                  try clear c35b0
                                                  try clear c36
                                                  try clear c36b0
                                                  try clear c39
                                                  try clear c39b0
                                                  try clear c40
                                                  try clear c40b0
                                                  try clear c42
                                                  try clear c42b0
                                                  try clear c43
                                                  try clear c43b0
                                                  try clear c45
                                                  try clear c45b0
                                                  try clear c46
                                                  try clear c46b0
                                                  try clear c47
                                                  try clear c49
                                                  try clear c49b0
                                                  try clear c50
                                                  try clear c50b0
                                                  try clear c52
                                                  try clear c52b0
                                                  try clear c53
                                                  try clear c53b0
                                                  try clear c55
                                                  try clear c55b0
                                                  try clear c56
                                                  try clear c56b0
                                                  try clear c58
                                                  try clear c58b0
                                                  try clear hx164_0
                                                  try clear hx165_0
                                                  try clear hx166_0
                                                  try clear hx167_0
                                                  try clear hx168_0
                                                  try clear hx169_0
                                                  try clear hx170_0
                                                  try clear hx171_0
                                                  try clear hx172_0
                                                  try clear p1
                                                  try clear p16
                                                  try clear p164
                                                  try clear p165
                                                  try clear p166
                                                  try clear p167
                                                  try clear p168
                                                  try clear p169
                                                  try clear p17
                                                  try clear p170
                                                  try clear p171
                                                  try clear p172
                                                  try clear p2
                                                  try clear p6
                                                  try clear q1
                                                  try clear q16
                                                  try clear q164
                                                  try clear q165
                                                  try clear q166
                                                  try clear q167
                                                  try clear q168
                                                  try clear q169
                                                  try clear q17
                                                  try clear q170
                                                  try clear q171
                                                  try clear q172
                                                  obtain ⟨kq, x109_56, rfl, HA, HJ56, HB⟩ := hcut
                                                  cases kq with
                                                  | zero => exact absurd HA.out (by simp [fingerprint_Bound.j7])
                                                  | succ kj56 =>
                                                    have H := HA.out
                                                    clear HA
                                                    simp only [fingerprint_Bound.j7] at H
                                                    by_cases c59 : x109_56 = true
                                                    · subst c59
                                                      have H1 : (if 0 ≤ (wrap64 (x31_2 - 1)) then (if (wrap64 (x31_2 - 1)) < (l2.length : Int) then (if 0 ≤ (wrap64 (x44_3 - 1)) then (if (wrap64 (x44_3 - 1)) < ((rd_L1 l2 (wrap64 (x31_2 - 1))).length : Int) then (if (rd (rd_L1 l2 x31_2) x44_3) < (-1000) then (some (0, false)) else (if (rd (rd_L1 l2 x31_2) x44_3) > (mn x12_31 (wrap64 ((rd (rd_L1 l2 (wrap64 (x31_2 - 1))) (wrap64 (x44_3 - 1))) + 1))) then (some (0, false)) else (fingerprint_Bound.l1 kj56 l0 l1 l2 x31_2 (rd_L1 l2 x31_2) l2 (l2.length : Int) x31_2 (rd_L1 l2 x31_2) ((rd_L1 l2 x31_2).length : Int) (wrap64 (x44_3 + 1))))) else (none)) else (none)) else (none)) else (none)) = some (r1, r2) := by rw [if_pos rfl] at H; exact H
                                                      clear H
                                                      have H := H1
                                                      clear H1
                                                      obtain ⟨ji60, hji60⟩ : ∃ j_ : Int, (wrap64 (x31_2 - 1)) = j_ := ⟨_, rfl⟩
                                                      replace H : (if 0 ≤ (ji60) then (if (ji60) < (l2.length : Int) then (if 0 ≤ (wrap64 (x44_3 - 1)) then (if (wrap64 (x44_3 - 1)) < ((rd_L1 l2 (ji60)).length : Int) then (if (rd (rd_L1 l2 x31_2) x44_3) < (-1000) then (some (0, false)) else (if (rd (rd_L1 l2 x31_2) x44_3) > (mn x12_31 (wrap64 ((rd (rd_L1 l2 (ji60)) (wrap64 (x44_3 - 1))) + 1))) then (some (0, false)) else (fingerprint_Bound.l1 kj56 l0 l1 l2 x31_2 (rd_L1 l2 x31_2) l2 (l2.length : Int) x31_2 (rd_L1 l2 x31_2) ((rd_L1 l2 x31_2).length : Int) (wrap64 (x44_3 + 1))))) else (none)) else (none)) else (none)) else (none)) = some (r1, r2) := by first | (rw [hji60] at H; exact H) | (simp only [hji60] at H ⊢; exact H)
                                                      have hji60w : (IntKind.i64.wrap (x31_2 - 1)) = ji60 := (i64_w _).trans hji60
                                                      by_cases c61 : 0 ≤ (ji60)
                                                      · rw [if_pos c61] at H
                                                        have c61b0 : decide (0 ≤ (ji60)) = true := decide_eq_true c61
                                                        clear c61
                                                        by_cases c62 : (ji60) < (l2.length : Int)
                                                        · rw [if_pos c62] at H
                                                          have c62b0 : decide ((ji60) < (l2.length : Int)) = true := decide_eq_true c62
                                                          clear c62
                                                          obtain ⟨ji63, hji63⟩ : ∃ j_ : Int, (wrap64 (x44_3 - 1)) = j_ := ⟨_, rfl⟩
                                                          replace H : (if 0 ≤ (ji63) then (if (ji63) < ((rd_L1 l2 (ji60)).length : Int) then (if (rd (rd_L1 l2 x31_2) x44_3) < (-1000) then (some (0, false)) else (if (rd (rd_L1 l2 x31_2) x44_3) > (mn x12_31 (wrap64 ((rd (rd_L1 l2 (ji60)) (ji63)) + 1))) then (some (0, false)) else (fingerprint_Bound.l1 kj56 l0 l1 l2 x31_2 (rd_L1 l2 x31_2) l2 (l2.length : Int) x31_2 (rd_L1 l2 x31_2) ((rd_L1 l2 x31_2).length : Int) (wrap64 (x44_3 + 1))))) else (none)) else (none)) = some (r1, r2) := by first | (rw [hji63] at H; exact H) | (simp only [hji63] at H ⊢; exact H)
                                                          have hji63w : (IntKind.i64.wrap (x44_3 - 1)) = ji63 := (i64_w _).trans hji63
                                                          by_cases c64 : 0 ≤ (ji63)
                                                          · rw [if_pos c64] at H
                                                            have c64b0 : decide (0 ≤ (ji63)) = true := decide_eq_true c64
                                                            clear c64
                                                            by_cases c65 : (ji63) < ((rd_L1 l2 (ji60)).length : Int)
                                                            · rw [if_pos c65] at H
                                                              have c65b0 : decide ((ji63) < ((rd_L1 l2 (ji60)).length : Int)) = true := decide_eq_true c65
                                                              clear c65
                                                              obtain ⟨ji66, hji66⟩ : ∃ j_ : Int, (mn x12_31 (wrap64 ((rd (rd_L1 l2 (ji60)) (ji63)) + 1))) = j_ := ⟨_, rfl⟩
                                                              replace H : (if (rd (rd_L1 l2 x31_2) x44_3) < (-1000) then (some (0, false)) else (if (rd (rd_L1 l2 x31_2) x44_3) > (ji66) then (some (0, false)) else (fingerprint_Bound.l1 kj56 l0 l1 l2 x31_2 (rd_L1 l2 x31_2) l2 (l2.length : Int) x31_2 (rd_L1 l2 x31_2) ((rd_L1 l2 x31_2).length : Int) (wrap64 (x44_3 + 1))))) = some (r1, r2) := by first | (rw [hji66] at H; exact H) | (simp only [hji66] at H ⊢; exact H)
                                                              have hji66_ : (if (wrap64 ((rd (rd_L1 l2 (ji60)) (ji63)) + 1)) < x12_31 then (wrap64 ((rd (rd_L1 l2 (ji60)) (ji63)) + 1)) else x12_31) = ji66 := hji66
                                                              by_cases c67 : (rd (rd_L1 l2 x31_2) x44_3) < (-1000)
                                                              · rw [if_pos c67] at H
                                                                have c67b0 : decide ((rd (rd_L1 l2 x31_2) x44_3) < (-1000)) = true := decide_eq_true c67
                                                                clear c67
                                                                simp only [Option.some.injEq, Prod.mk.injEq] at H
                                                                obtain ⟨rfl, rfl⟩ := H
                                                                have p173 : 0 ≤ ((ji60) : Int) := of_decide_eq_true (by first | (with_reducible assumption) | assumption)
                                                                have q173 : (ji60) < (l2.length : Int) := of_decide_eq_true (by first | (with_reducible assumption) | assumption)
                                                                obtain ⟨ad173, A173_0, c173_0, e173, hx173_0, hl173_0, hi173_0⟩ := at_L1 HR2.out (ji60) p173 q173
                                                                obtain rfl : ad164 = ad173 := (by injection e173)
                                                                replace hx173_0 := (HB.out.cell (World.block_lt_of_cell? w _ hx173_0)).trans hx173_0
                                                                have HR173_0 := Aside0.mk hi173_0
                                                                have HC173_0 := Aside0.mk hl173_0
                                                                clear hi173_0 hl173_0
                                                                replace p173 := eq_true p173
                                                                replace q173 := eq_true q173
                                                                have p174 : 0 ≤ ((ji63) : Int) := of_decide_eq_true (by first | (with_reducible assumption) | assumption)
                                                                have q174 : (ji63) < ((rd_L1 l2 (ji60)).length : Int) := of_decide_eq_true (by first | (with_reducible assumption) | assumption)
                                                                obtain ⟨ad174, e174, hx174_0⟩ := Kd.at_int HR173_0.out (ji63) p174 q174
                                                                cases e174
                                                                replace hx174_0 := (HB.out.cell (World.block_lt_of_cell? w _ hx174_0)).trans hx174_0
                                                                replace p174 := eq_true p174
                                                                replace q174 := eq_true q174
                                                                go_wp2
                                                                repeat (go_quiet (fail); try go_wp2)
                                                                go_ret2
                                                                exact ⟨by first | rfl | (simp [errW_none, errW_some] <;> rfl) | (simp only [← hji60, ← hji63, ← hji66]; first | rfl | (simp [errW_none, errW_some] <;> rfl)) | (simp [*, errW_none, errW_some] <;> rfl), by repeat (first | (with_reducible first | exact HB.out | apply below_alloc | apply pw_below_drewN | apply below_drew1) | exact HB.out)⟩
                                                              · rw [if_neg c67] at H
                                                                have c67b0 : decide ((rd (rd_L1 l2 x31_2) x44_3) < (-1000)) = false := decide_eq_false c67
                                                                clear c67
                                                                by_cases c68 : (rd (rd_L1 l2 x31_2) x44_3) > (ji66)
                                                                · rw [if_pos c68] at H
                                                                  have c68b0 : decide ((ji66) < (rd (rd_L1 l2 x31_2) x44_3)) = true := decide_eq_true c68
                                                                  clear c68
                                                                  simp only [Option.some.injEq, Prod.mk.injEq] at H
                                                                  obtain ⟨rfl, rfl⟩ := H
                                                                  have p173 : 0 ≤ ((ji60) : Int) := of_decide_eq_true (by first | (with_reducible assumption) | assumption)
                                                                  have q173 : (ji60) < (l2.length : Int) := of_decide_eq_true (by first | (with_reducible assumption) | assumption)
                                                                  obtain ⟨ad173, A173_0, c173_0, e173, hx173_0, hl173_0, hi173_0⟩ := at_L1 HR2.out (ji60) p173 q173
                                                                  obtain rfl : ad164 = ad173 := (by injection e173)
                                                                  replace hx173_0 := (HB.out.cell (World.block_lt_of_cell? w _ hx173_0)).trans hx173_0
                                                                  have HR173_0 := Aside0.mk hi173_0
                                                                  have HC173_0 := Aside0.mk hl173_0
                                                                  clear hi173_0 hl173_0
                                                                  replace p173 := eq_true p173
                                                                  replace q173 := eq_true q173
                                                                  have p174 : 0 ≤ ((ji63) : Int) := of_decide_eq_true (by first | (with_reducible assumption) | assumption)
                                                                  have q174 : (ji63) < ((rd_L1 l2 (ji60)).length : Int) := of_decide_eq_true (by first | (with_reducible assumption) | assumption)
                                                                  obtain ⟨ad174, e174, hx174_0⟩ := Kd.at_int HR173_0.out (ji63) p174 q174
                                                                  cases e174
                                                                  replace hx174_0 := (HB.out.cell (World.block_lt_of_cell? w _ hx174_0)).trans hx174_0
                                                                  replace p174 := eq_true p174
                                                                  replace q174 := eq_true q174
                                                                  go_wp2
                                                                  repeat (go_quiet (fail); try go_wp2)
                                                                  go_ret2
                                                                  exact ⟨by first | rfl | (simp [errW_none, errW_some] <;> rfl) | (simp only [← hji60, ← hji63, ← hji66]; first | rfl | (simp [errW_none, errW_some] <;> rfl)) | (simp [*, errW_none, errW_some] <;> rfl), by repeat (first | (with_reducible first | exact HB.out | apply below_alloc | apply pw_below_drewN | apply below_drew1) | exact HB.out)⟩
                                                                · rw [if_neg c68] at H
                                                                  have c68b0 : decide ((ji66) < (rd (rd_L1 l2 x31_2) x44_3)) = false := decide_eq_false c68
                                                                  clear c68
                                                                  have H' := Aside0.mk H
                                                                  clear H
                                                                  have p173 : 0 ≤ ((ji60) : Int) := of_decide_eq_true (by first | (with_reducible assumption) | assumption)
                                                                  have q173 : (ji60) < (l2.length : Int) := of_decide_eq_true (by first | (with_reducible assumption) | assumption)
                                                                  obtain ⟨ad173, A173_0, c173_0, e173, hx173_0, hl173_0, hi173_0⟩ := at_L1 HR2.out (ji60) p173 q173
                                                                  obtain rfl : ad164 = ad173 := (by injection e173)
                                                                  replace hx173_0 := (HB.out.cell (World.block_lt_of_cell? w _ hx173_0)).trans hx173_0
                                                                  have HR173_0 := Aside0.mk hi173_0
                                                                  have HC173_0 := Aside0.mk hl173_0
                                                                  clear hi173_0 hl173_0
                                                                  replace p173 := eq_true p173
                                                                  replace q173 := eq_true q173
                                                                  have p174 : 0 ≤ ((ji63) : Int) := of_decide_eq_true (by first | (with_reducible assumption) | assumption)
                                                                  have q174 : (ji63) < ((rd_L1 l2 (ji60)).length : Int) := of_decide_eq_true (by first | (with_reducible assumption) | assumption)
                                                                  obtain ⟨ad174, e174, hx174_0⟩ := Kd.at_int HR173_0.out (ji63) p174 q174
                                                                  cases e174
                                                                  replace hx174_0 := (HB.out.cell (World.block_lt_of_cell? w _ hx174_0)).trans hx174_0
                                                                  replace p174 := eq_true p174
                                                                  replace q174 := eq_true q174
                                                                  go_wp2
                                                                  repeat (go_quiet (fail); try go_wp2)
                                                                  go_roundg kj56
                                                                  case measure => have := HJ3.out; have := HK2.out; have := HK3.out; have := HJ21.out; have := HJ23.out; have := HJ31.out; have := HJ37.out; have := HJ56.out; omega
                                                                  case rel => exact ⟨(wrap64 (x44_3 + 1)), (by first | rfl | (simp; done) | (simp [*]; done)), H', ⟨by have := HJ3.out; have := HK2.out; have := HK3.out; have := HJ21.out; have := HJ23.out; have := HJ31.out; have := HJ37.out; have := HJ56.out; omega⟩, ⟨by repeat (first | (with_reducible first | exact HB.out | apply below_alloc | apply pw_below_drewN | apply below_drew1) | exact HB.out)⟩⟩
                                                            · rw [if_neg c65] at H
                                                              exact absurd H (by simp)
                                                          · rw [if_neg c64] at H
                                                            exact absurd H (by simp)
                                                        · rw [if_neg c62] at H
                                                          exact absurd H (by simp)
                                                      · rw [if_neg c61] at H
                                                        exact absurd H (by simp)
                                                    · replace c59 := Bool.eq_false_iff.mpr c59
                                                      subst c59
                                                      have H1 : (if (rd (rd_L1 l2 x31_2) x44_3) < (-1000) then (some (0, false)) else (if (rd (rd_L1 l2 x31_2) x44_3) > x12_31 then (some (0, false)) else (fingerprint_Bound.l1 kj56 l0 l1 l2 x31_2 (rd_L1 l2 x31_2) l2 (l2.length : Int) x31_2 (rd_L1 l2 x31_2) ((rd_L1 l2 x31_2).length : Int) (wrap64 (x44_3 + 1))))) = some (r1, r2) := by rw [if_neg (show ¬ (false = true) by decide)] at H; exact H
                                                      clear H
                                                      have H := H1
                                                      clear H1
                                                      by_cases c69 : (rd (rd_L1 l2 x31_2) x44_3) < (-1000)
                                                      · rw [if_pos c69] at H
                                                        have c69b0 : decide ((rd (rd_L1 l2 x31_2) x44_3) < (-1000)) = true := decide_eq_true c69
                                                        clear c69
                                                        simp only [Option.some.injEq, Prod.mk.injEq] at H
                                                        obtain ⟨rfl, rfl⟩ := H
                                                        go_wp2
                                                        repeat (go_quiet (fail); try go_wp2)
                                                        go_ret2
                                                        exact ⟨by first | rfl | (simp [errW_none, errW_some] <;> rfl) | (simp [*, errW_none, errW_some] <;> rfl), by repeat (first | (with_reducible first | exact HB.out | apply below_alloc | apply pw_below_drewN | apply below_drew1) | exact HB.out)⟩
                                                      · rw [if_neg c69] at H
                                                        have c69b0 : decide ((rd (rd_L1 l2 x31_2) x44_3) < (-1000)) = false := decide_eq_false c69
                                                        clear c69
                                                        by_cases c70 : (rd (rd_L1 l2 x31_2) x44_3) > x12_31
                                                        · rw [if_pos c70] at H
                                                          have c70b0 : decide (x12_31 < (rd (rd_L1 l2 x31_2) x44_3)) = true := decide_eq_true c70
                                                          clear c70
                                                          simp only [Option.some.injEq, Prod.mk.injEq] at H
                                                          obtain ⟨rfl, rfl⟩ := H
                                                          go_wp2
                                                          repeat (go_quiet (fail); try go_wp2)
                                                          go_ret2
                                                          exact ⟨by first | rfl | (simp [errW_none, errW_some] <;> rfl) | (simp [*, errW_none, errW_some] <;> rfl), by repeat (first | (with_reducible first | exact HB.out | apply below_alloc | apply pw_below_drewN | apply below_drew1) | exact HB.out)⟩
                                                        · rw [if_neg c70] at H
                                                          have c70b0 : decide (x12_31 < (rd (rd_L1 l2 x31_2) x44_3)) = false := decide_eq_false c70
                                                          clear c70
                                                          have H' := Aside0.mk H
                                                          clear H
                                                          go_wp2
                                                          repeat (go_quiet (fail); try go_wp2)
                                                          go_roundg kj56
                                                          case measure => have := HJ3.out; have := HK2.out; have := HK3.out; have := HJ21.out; have := HJ23.out; have := HJ31.out; have := HJ37.out; have := HJ56.out; omega
                                                          case rel => exact ⟨(wrap64 (x44_3 + 1)), (by first | rfl | (simp; done) | (simp [*]; done)), H', ⟨by have := HJ3.out; have := HK2.out; have := HK3.out; have := HJ21.out; have := HJ23.out; have := HJ31.out; have := HJ37.out; have := HJ56.out; omega⟩, ⟨by repeat (first | (with_reducible first | exact HB.out | apply below_alloc | apply pw_below_drewN | apply below_drew1) | exact HB.out)⟩⟩
                            · rw [if_neg c21] at H
                              exact absurd H (by simp)
                          · rw [if_neg c20] at H
                            exact absurd H (by simp)
                        · rw [if_neg c19] at H
                          have c19b0 : decide (x44_3 < ((rd_L1 l2 x31_2).length : Int)) = false := decide_eq_false c19
                          clear c19
                          have H' := Aside0.mk H
                          clear H
                          go_wp2
                          repeat (go_quiet (fail); try go_wp2)
                          go_roundg k3
                          case measure => have := HJ3.out; have := HK2.out; have := HK3.out; omega
                          case rel => exact ⟨(wrap64 (x31_2 + 1)), (by first | rfl | (simp; done) | (simp [*]; done)), H', ⟨by have := HJ3.out; have := HK2.out; have := HK3.out; omega⟩, ⟨by repeat (first | (with_reducible first | exact HB.out | apply below_alloc | apply pw_below_drewN | apply below_drew1) | exact HB.out)⟩⟩
                  · rw [if_neg c18] at H
                    have c18b0 : (((rd_L1 l2 x31_2).length : Int) == (wrap64 ((l1.length : Int) + 1))) = false := beq_eq_false_iff_ne.mpr c18
                    have c18b1 : (((rd_L1 l2 x31_2).length : Int) != (wrap64 ((l1.length : Int) + 1))) = true := bne_iff_ne.mpr c18
                    simp only [Option.some.injEq, Prod.mk.injEq] at H
                    obtain ⟨rfl, rfl⟩ := H
                    have p164 : 0 ≤ (x31_2 : Int) := of_decide_eq_true (by first | (with_reducible assumption) | assumption)
                    have q164 : x31_2 < (l2.length : Int) := of_decide_eq_true (by first | (with_reducible assumption) | assumption)
                    obtain ⟨ad164, A164_0, c164_0, e164, hx164_0, hl164_0, hi164_0⟩ := at_L1 HR2.out x31_2 p164 q164
                    cases e164
                    replace hx164_0 := (HB.out.cell (World.block_lt_of_cell? w _ hx164_0)).trans hx164_0
                    have HR164_0 := Aside0.mk hi164_0
                    have HC164_0 := Aside0.mk hl164_0
                    clear hi164_0 hl164_0
                    replace p164 := eq_true p164
                    replace q164 := eq_true q164
                    go_wp2
                    repeat (go_quiet (fail); try go_wp2)
                    go_ret2
                    exact ⟨by first | rfl | (simp [errW_none, errW_some] <;> rfl) | (simp [*, errW_none, errW_some] <;> rfl), by repeat (first | (with_reducible first | exact HB.out | apply below_alloc | apply pw_below_drewN | apply below_drew1) | exact HB.out)⟩
                · rw [if_neg c17] at H
                  exact absurd H (by simp)
              · rw [if_neg c16] at H
                exact absurd H (by simp)
            · rw [if_neg c15] at H
              have c15b0 : decide (x31_2 < (l2.length : Int)) = false := decide_eq_false c15
              clear c15
              by_cases c71 : 0 ≤ (l0.length : Int)
              · rw [if_pos c71] at H
                have c71b0 : decide (0 ≤ (l0.length : Int)) = true := decide_eq_true c71
                have c71b1 : decide (0 ≤ l0.length) = true := decide_eq_true (by omega)
                clear c71
                by_cases c72 : (l0.length : Int) < (l2.length : Int)
                · rw [if_pos c72] at H
                  have c72b0 : decide ((l0.length : Int) < (l2.length : Int)) = true := decide_eq_true c72
                  have c72b1 : decide (l0.length < l2.length) = true := decide_eq_true (Int.ofNat_lt.mp c72)
                  clear c72
                  replace H := Option.bind_eq_some_iff.mp H
                  obtain ⟨t163, A730, H⟩ := H
                  replace H : (some (t163, true)) = some (r1, r2) := H
                  have A73 := Aside0.mk A730
                  clear A730
                  simp only [Option.some.injEq, Prod.mk.injEq] at H
                  obtain ⟨rfl, rfl⟩ := H
                  have p162 : 0 ≤ ((l0.length : Int) : Int) := of_decide_eq_true (by first | (with_reducible assumption) | assumption)
                  have q162 : (l0.length : Int) < (l2.length : Int) := of_decide_eq_true (by first | (with_reducible assumption) | assumption)
                  obtain ⟨ad162, A162_0, c162_0, e162, hx162_0, hl162_0, hi162_0⟩ := at_L1 HR2.out (l0.length : Int) p162 q162
                  cases e162
                  replace hx162_0 := (HB.out.cell (World.block_lt_of_cell? w _ hx162_0)).trans hx162_0
                  have HR162_0 := Aside0.mk hi162_0
                  have HC162_0 := Aside0.mk hl162_0
                  clear hi162_0 hl162_0
                  (try simp only [Go.IntWalk.toNatUp] at hx162_0)
                  replace p162 := eq_true p162
                  replace q162 := eq_true q162
                  go_wp2_with (first | (go_at_call 45; (with_reducible refine (slices_Min_int_int.calls _ _ (rd_L1 l2 (l0.length : Int)) t163 _ ?side1 ?side2 A73.out).mono ?_); (case side1 => repeat (first | exact (Kd.C_below HR162_0.out HB.out) | (with_reducible refine Kd.C_alloc ?_ _) | (with_reducible refine Kd.C_drewN ?_ _) | (with_reducible refine Kd.C_drew ?_))); (case side2 => exact HC162_0.out); rintro e w74 ⟨rfl, hb⟩; have n0_ := Aside0.mk (below_step (by repeat (first | (with_reducible first | exact HB.out | apply below_alloc | apply pw_below_drewN | apply below_drew1) | exact HB.out)) hb); clear HB; have HB := n0_; clear n0_; (try clear hb); (try clear hb2); (try clear hk); (try clear hi)))
                  repeat (go_quiet (first | (go_at_call 45; (with_reducible refine (slices_Min_int_int.calls _ _ (rd_L1 l2 (l0.length : Int)) t163 _ ?side1 ?side2 A73.out).mono ?_); (case side1 => repeat (first | exact (Kd.C_below HR162_0.out HB.out) | (with_reducible refine Kd.C_alloc ?_ _) | (with_reducible refine Kd.C_drewN ?_ _) | (with_reducible refine Kd.C_drew ?_))); (case side2 => exact HC162_0.out); rintro e w74 ⟨rfl, hb⟩; have n0_ := Aside0.mk (below_step (by repeat (first | (with_reducible first | exact HB.out | apply below_alloc | apply pw_below_drewN | apply below_drew1) | exact HB.out)) hb); clear HB; have HB := n0_; clear n0_; (try clear hb); (try clear hb2); (try clear hk); (try clear hi))); try go_wp2_with (first | (go_at_call 45; (with_reducible refine (slices_Min_int_int.calls _ _ (rd_L1 l2 (l0.length : Int)) t163 _ ?side1 ?side2 A73.out).mono ?_); (case side1 => repeat (first | exact (Kd.C_below HR162_0.out HB.out) | (with_reducible refine Kd.C_alloc ?_ _) | (with_reducible refine Kd.C_drewN ?_ _) | (with_reducible refine Kd.C_drew ?_))); (case side2 => exact HC162_0.out); rintro e w74 ⟨rfl, hb⟩; have n0_ := Aside0.mk (below_step (by repeat (first | (with_reducible first | exact HB.out | apply below_alloc | apply pw_below_drewN | apply below_drew1) | exact HB.out)) hb); clear HB; have HB := n0_; clear n0_; (try clear hb); (try clear hb2); (try clear hk); (try clear hi))))
                  go_ret2
                  exact ⟨by first | rfl | (simp [errW_none, errW_some] <;> rfl) | (simp [*, errW_none, errW_some] <;> rfl), by repeat (first | (with_reducible first | exact HB.out | apply below_alloc | apply pw_below_drewN | apply below_drew1) | exact HB.out)⟩
                · rw [if_neg c72] at H
                  exact absurd H (by simp)
              · rw [if_neg c71] at H
                exact absurd H (by simp)

end Go.Proofs.Ytgaepndbfpfniaa.PFB
