-- PRINTED by print.py (a twelfth state) out of the translation. Not trusted: Lean checks it.
import Derived.Test.YtbhngbjopfjacaaPS15x17
import Derived.Test.YtbhngbjopfjacaaPS15x19
import Derived.Test.YtbhngbjopfjacaaPS15x0
import Derived.Test.YtbhngbjopfjacaaPS15x3
import Derived.Test.YtbhngbjopfjacaaPS15x6
import Derived.Test.YtbhngbjopfjacaaPS15x7
import Derived.Test.YtbhngbjopfjacaaPS15x8
import Derived.Test.YtbhngbjopfjacaaPS15x11
import Derived.Test.YtbhngbjopfjacaaPS15x12
import Derived.Test.YtbhngbjopfjacaaPS15x16
namespace Go.Proofs.Ytbhngbjopfjacaa.PS15
open Go.RowKit Go.Proofs.YtbhngbjopfjacaaW.PrintWords Go.Proofs.YtbhngbjopfjacaaW.PrintLast Go.Proofs.YtbhngbjopfjacaaW.PrintMore
attribute [local go_sem] max2_int min2_int max_two min_two max_three min_three max_four min_four   -- for this text's walks alone
set_option linter.unusedVariables false
set_option linter.unusedSimpArgs false

/-! ### airchecklaw15_TimelinePut: function 5 -/
mutual
def airchecklaw15_TimelinePut.j0 : Nat → Int → List (S25) → Int → List (S25) → List (S25) → Bool → Option (Bool)
  | 0, _, _, _, _, _, _ => none
  | k + 1, x3, x9, x10, x11, x12, x78 => if x78 = true then (some false) else ((airchecklaw15_pick.f x3 x10).bind fun t228 => ((timeline_At.f x9 t228).bind fun bt229 => ((timeline_At.f x12 t228).bind fun bt231 => (if 0 < (x11.length : Int) then (if ((rd_T25 x11 0).f0) ≤ t228 then (airchecklaw15_TimelinePut.j1 k x9 x11 x12 bt229.2 bt231.1 bt231.2 bt229.1 (decide (t228 < ((rd_T25 x11 0).f1)))) else (airchecklaw15_TimelinePut.j1 k x9 x11 x12 bt229.2 bt231.1 bt231.2 bt229.1 false)) else (none)))))
def airchecklaw15_TimelinePut.j1 : Nat → List (S25) → List (S25) → List (S25) → Int → Int → Int → Int → Bool → Option (Bool)
  | 0, _, _, _, _, _, _, _, _ => none
  | k + 1, x9, x11, x12, x18, x19, x20, x21, x108 => if x108 = true then (if 0 < (x11.length : Int) then (airchecklaw15_TimelinePut.j2 k x9 x11 x12 x18 x19 x20 ((rd_T25 x11 0).f2)) else (none)) else (airchecklaw15_TimelinePut.j2 k x9 x11 x12 x18 x19 x20 x21)
def airchecklaw15_TimelinePut.j2 : Nat → List (S25) → List (S25) → List (S25) → Int → Int → Int → Int → Option (Bool)
  | 0, _, _, _, _, _, _, _ => none
  | k + 1, x9, x11, x12, x18, x19, x20, x21 => if x18 = 0 then (if x20 = 0 then (airchecklaw15_TimelinePut.j3 k x9 x11 x12 (x19 != x21)) else (airchecklaw15_TimelinePut.j3 k x9 x11 x12 true)) else (airchecklaw15_TimelinePut.j3 k x9 x11 x12 true)
def airchecklaw15_TimelinePut.j3 : Nat → List (S25) → List (S25) → List (S25) → Bool → Option (Bool)
  | 0, _, _, _, _ => none
  | k + 1, x9, x11, x12, x123 => if x123 = true then (some false) else (if 0 < (x11.length : Int) then ((timeline_Within.f x9 ((rd_T25 x11 0).f0) ((rd_T25 x11 0).f1)).bind fun bt238 => (airchecklaw15_TimelinePut.l0 k x9 x11 x12 bt238.1 bt238.2 x12 0)) else (none))
def airchecklaw15_TimelinePut.l0 : Nat → List (S25) → List (S25) → List (S25) → List (S25) → Int → List (S25) → Int → Option (Bool)
  | 0, _, _, _, _, _, _, _ => none
  | k + 1, x9, x11, x12, x22, x23, x24, x25 => if x25 < (x22.length : Int) then (if 0 ≤ x25 then ((timeline_Put.f x24 ((rd_T25 x22 x25).f0) ((rd_T25 x22 x25).f1) ((rd_T25 x22 x25).f2)).bind fun bt243 => (if bt243.2 = 0 then (airchecklaw15_TimelinePut.l0 k x9 x11 x12 x22 x23 bt243.1 (wrap64 (x25 + 1))) else (some false))) else (none)) else (if x23 = 0 then ((aircheckref15_Same.f k x24 x9).bind fun t247 => (airchecklaw15_TimelinePut.j5 k x9 x11 x12 (!t247))) else (airchecklaw15_TimelinePut.j5 k x9 x11 x12 true))
def airchecklaw15_TimelinePut.j5 : Nat → List (S25) → List (S25) → List (S25) → Bool → Option (Bool)
  | 0, _, _, _, _ => none
  | k + 1, x9, x11, x12, x164 => if x164 = true then (some false) else (if 0 < (x11.length : Int) then (if 1 < (x11.length : Int) then (if ((rd_T25 x11 0).f1) > ((rd_T25 x11 1).f0) then (airchecklaw15_TimelinePut.j6 k x9 x11 x12 (decide (((rd_T25 x11 1).f1) > ((rd_T25 x11 0).f0)))) else (airchecklaw15_TimelinePut.j6 k x9 x11 x12 false)) else (none)) else (none))
def airchecklaw15_TimelinePut.j6 : Nat → List (S25) → List (S25) → List (S25) → Bool → Option (Bool)
  | 0, _, _, _, _ => none
  | k + 1, x9, x11, x12, x184 => if x184 = true then (some true) else (if 1 < (x11.length : Int) then ((timeline_Put.f x12 ((rd_T25 x11 1).f0) ((rd_T25 x11 1).f1) ((rd_T25 x11 1).f2)).bind fun bt253 => ((timeline_Put.f x9 ((rd_T25 x11 1).f0) ((rd_T25 x11 1).f1) ((rd_T25 x11 1).f2)).bind fun bt258 => (if 0 < (x11.length : Int) then ((timeline_Put.f bt258.1 ((rd_T25 x11 0).f0) ((rd_T25 x11 0).f1) ((rd_T25 x11 0).f2)).bind fun bt263 => (if bt253.2 = 0 then (if bt258.2 = 0 then (if bt263.2 = 0 then ((aircheckref15_Same.f k bt253.1 bt263.1).bind fun t267 => (some t267)) else (some false)) else (some false)) else (some false))) else (none)))) else (none))
end
def airchecklaw15_TimelinePut.f (k : Nat) (a0 : Int) (l1 : List (S29)) (a2_0 : Int) (a2_1 : Int) (a2_2 : Int) (a2_3 : Int) (a2_4 : Int) (a2_5 : Int) (a3 : Int) : Option (Bool) := (airchecklaw15_sane.f k).bind fun t208 => (if t208 = true then ((aircheckref15_Made.f k a0 l1).bind fun t209 => ((airchecklaw15_pick.f a0 400).bind fun t212 => ((aircheckref15_Spans.f k (wrap64 (1 + t212)) (([(⟨a2_0, a2_1, a2_2⟩ : S29), (⟨a2_3, a2_4, a2_5⟩ : S29)] : List (S29)))).bind fun t213 => (if 0 < (t213.length : Int) then ((timeline_Put.f t209 ((rd_T25 t213 0).f0) ((rd_T25 t213 0).f1) ((rd_T25 t213 0).f2)).bind fun bt217 => ((timeline_Put.f bt217.1 ((rd_T25 t213 0).f0) ((rd_T25 t213 0).f1) ((rd_T25 t213 0).f2)).bind fun bt222 => (if bt217.2 = 0 then (if bt222.2 = 0 then ((aircheckref15_Same.f k bt217.1 bt222.1).bind fun t226 => (if t226 = true then ((timeline_End.f k bt217.1).bind fun t227 => (airchecklaw15_TimelinePut.j0 k a3 t209 (wrap64 (1 + t212)) t213 bt217.1 (t227 != (wrap64 (1 + t212))))) else (airchecklaw15_TimelinePut.j0 k a3 t209 (wrap64 (1 + t212)) t213 bt217.1 true))) else (airchecklaw15_TimelinePut.j0 k a3 t209 (wrap64 (1 + t212)) t213 bt217.1 true)) else (airchecklaw15_TimelinePut.j0 k a3 t209 (wrap64 (1 + t212)) t213 bt217.1 true)))) else (none))))) else (some false))
theorem airchecklaw15_TimelinePut.mono_l : ∀ k, (∀ y0 y1 y2 y3 y4 y5, LeO (airchecklaw15_TimelinePut.j0 k y0 y1 y2 y3 y4 y5) (airchecklaw15_TimelinePut.j0 (k + 1) y0 y1 y2 y3 y4 y5)) ∧ (∀ y0 y1 y2 y3 y4 y5 y6 y7, LeO (airchecklaw15_TimelinePut.j1 k y0 y1 y2 y3 y4 y5 y6 y7) (airchecklaw15_TimelinePut.j1 (k + 1) y0 y1 y2 y3 y4 y5 y6 y7)) ∧ (∀ y0 y1 y2 y3 y4 y5 y6, LeO (airchecklaw15_TimelinePut.j2 k y0 y1 y2 y3 y4 y5 y6) (airchecklaw15_TimelinePut.j2 (k + 1) y0 y1 y2 y3 y4 y5 y6)) ∧ (∀ y0 y1 y2 y3, LeO (airchecklaw15_TimelinePut.j3 k y0 y1 y2 y3) (airchecklaw15_TimelinePut.j3 (k + 1) y0 y1 y2 y3)) ∧ (∀ y0 y1 y2 y3 y4 y5 y6, LeO (airchecklaw15_TimelinePut.l0 k y0 y1 y2 y3 y4 y5 y6) (airchecklaw15_TimelinePut.l0 (k + 1) y0 y1 y2 y3 y4 y5 y6)) ∧ (∀ y0 y1 y2 y3, LeO (airchecklaw15_TimelinePut.j5 k y0 y1 y2 y3) (airchecklaw15_TimelinePut.j5 (k + 1) y0 y1 y2 y3)) ∧ (∀ y0 y1 y2 y3, LeO (airchecklaw15_TimelinePut.j6 k y0 y1 y2 y3) (airchecklaw15_TimelinePut.j6 (k + 1) y0 y1 y2 y3))
  | 0 => ⟨fun _ _ _ _ _ _ r h => by simp [airchecklaw15_TimelinePut.j0] at h, fun _ _ _ _ _ _ _ _ r h => by simp [airchecklaw15_TimelinePut.j1] at h, fun _ _ _ _ _ _ _ r h => by simp [airchecklaw15_TimelinePut.j2] at h, fun _ _ _ _ r h => by simp [airchecklaw15_TimelinePut.j3] at h, fun _ _ _ _ _ _ _ r h => by simp [airchecklaw15_TimelinePut.l0] at h, fun _ _ _ _ r h => by simp [airchecklaw15_TimelinePut.j5] at h, fun _ _ _ _ r h => by simp [airchecklaw15_TimelinePut.j6] at h⟩
  | k + 1 => by
    obtain ⟨ih0, ih1, ih2, ih3, ih4, ih5, ih6⟩ := airchecklaw15_TimelinePut.mono_l k
    refine ⟨?_, ?_, ?_, ?_, ?_, ?_, ?_⟩
    · intro y0 y1 y2 y3 y4 y5
      unfold airchecklaw15_TimelinePut.j0
      repeat' first
      | (with_reducible exact ih0 _ _ _ _ _ _)
      | (with_reducible exact ih1 _ _ _ _ _ _ _ _)
      | (with_reducible exact ih2 _ _ _ _ _ _ _)
      | (with_reducible exact ih3 _ _ _ _)
      | (with_reducible exact ih4 _ _ _ _ _ _ _)
      | (with_reducible exact ih5 _ _ _ _)
      | (with_reducible exact ih6 _ _ _ _)
      | (with_reducible exact airchecklaw15_sane.mono _)
      | (with_reducible exact aircheckref15_Made.mono _ _ _)
      | (with_reducible exact aircheckref15_Same.mono _ _ _)
      | (with_reducible exact aircheckref15_Spans.mono _ _ _)
      | (with_reducible exact timeline_End.mono _ _)
      | (with_reducible exact LeO.refl _)
      | (with_reducible exact LeO.none _)
      | (with_reducible refine LeO.ite ?_ ?_)
      | (with_reducible refine LeO.bind ?_ (fun _ => ?_))
      | exact ih0 _ _ _ _ _ _
      | exact ih1 _ _ _ _ _ _ _ _
      | exact ih2 _ _ _ _ _ _ _
      | exact ih3 _ _ _ _
      | exact ih4 _ _ _ _ _ _ _
      | exact ih5 _ _ _ _
      | exact ih6 _ _ _ _
      | exact airchecklaw15_sane.mono _
      | exact aircheckref15_Made.mono _ _ _
      | exact aircheckref15_Same.mono _ _ _
      | exact aircheckref15_Spans.mono _ _ _
      | exact timeline_End.mono _ _
      | exact LeO.none _
      | refine LeO.ite ?_ ?_
      | refine LeO.bind ?_ (fun _ => ?_)
    · intro y0 y1 y2 y3 y4 y5 y6 y7
      unfold airchecklaw15_TimelinePut.j1
      repeat' first
      | (with_reducible exact ih0 _ _ _ _ _ _)
      | (with_reducible exact ih1 _ _ _ _ _ _ _ _)
      | (with_reducible exact ih2 _ _ _ _ _ _ _)
      | (with_reducible exact ih3 _ _ _ _)
      | (with_reducible exact ih4 _ _ _ _ _ _ _)
      | (with_reducible exact ih5 _ _ _ _)
      | (with_reducible exact ih6 _ _ _ _)
      | (with_reducible exact airchecklaw15_sane.mono _)
      | (with_reducible exact aircheckref15_Made.mono _ _ _)
      | (with_reducible exact aircheckref15_Same.mono _ _ _)
      | (with_reducible exact aircheckref15_Spans.mono _ _ _)
      | (with_reducible exact timeline_End.mono _ _)
      | (with_reducible exact LeO.refl _)
      | (with_reducible exact LeO.none _)
      | (with_reducible refine LeO.ite ?_ ?_)
      | (with_reducible refine LeO.bind ?_ (fun _ => ?_))
      | exact ih0 _ _ _ _ _ _
      | exact ih1 _ _ _ _ _ _ _ _
      | exact ih2 _ _ _ _ _ _ _
      | exact ih3 _ _ _ _
      | exact ih4 _ _ _ _ _ _ _
      | exact ih5 _ _ _ _
      | exact ih6 _ _ _ _
      | exact airchecklaw15_sane.mono _
      | exact aircheckref15_Made.mono _ _ _
      | exact aircheckref15_Same.mono _ _ _
      | exact aircheckref15_Spans.mono _ _ _
      | exact timeline_End.mono _ _
      | exact LeO.none _
      | refine LeO.ite ?_ ?_
      | refine LeO.bind ?_ (fun _ => ?_)
    · intro y0 y1 y2 y3 y4 y5 y6
      unfold airchecklaw15_TimelinePut.j2
      repeat' first
      | (with_reducible exact ih0 _ _ _ _ _ _)
      | (with_reducible exact ih1 _ _ _ _ _ _ _ _)
      | (with_reducible exact ih2 _ _ _ _ _ _ _)
      | (with_reducible exact ih3 _ _ _ _)
      | (with_reducible exact ih4 _ _ _ _ _ _ _)
      | (with_reducible exact ih5 _ _ _ _)
      | (with_reducible exact ih6 _ _ _ _)
      | (with_reducible exact airchecklaw15_sane.mono _)
      | (with_reducible exact aircheckref15_Made.mono _ _ _)
      | (with_reducible exact aircheckref15_Same.mono _ _ _)
      | (with_reducible exact aircheckref15_Spans.mono _ _ _)
      | (with_reducible exact timeline_End.mono _ _)
      | (with_reducible exact LeO.refl _)
      | (with_reducible exact LeO.none _)
      | (with_reducible refine LeO.ite ?_ ?_)
      | (with_reducible refine LeO.bind ?_ (fun _ => ?_))
      | exact ih0 _ _ _ _ _ _
      | exact ih1 _ _ _ _ _ _ _ _
      | exact ih2 _ _ _ _ _ _ _
      | exact ih3 _ _ _ _
      | exact ih4 _ _ _ _ _ _ _
      | exact ih5 _ _ _ _
      | exact ih6 _ _ _ _
      | exact airchecklaw15_sane.mono _
      | exact aircheckref15_Made.mono _ _ _
      | exact aircheckref15_Same.mono _ _ _
      | exact aircheckref15_Spans.mono _ _ _
      | exact timeline_End.mono _ _
      | exact LeO.none _
      | refine LeO.ite ?_ ?_
      | refine LeO.bind ?_ (fun _ => ?_)
    · intro y0 y1 y2 y3
      unfold airchecklaw15_TimelinePut.j3
      repeat' first
      | (with_reducible exact ih0 _ _ _ _ _ _)
      | (with_reducible exact ih1 _ _ _ _ _ _ _ _)
      | (with_reducible exact ih2 _ _ _ _ _ _ _)
      | (with_reducible exact ih3 _ _ _ _)
      | (with_reducible exact ih4 _ _ _ _ _ _ _)
      | (with_reducible exact ih5 _ _ _ _)
      | (with_reducible exact ih6 _ _ _ _)
      | (with_reducible exact airchecklaw15_sane.mono _)
      | (with_reducible exact aircheckref15_Made.mono _ _ _)
      | (with_reducible exact aircheckref15_Same.mono _ _ _)
      | (with_reducible exact aircheckref15_Spans.mono _ _ _)
      | (with_reducible exact timeline_End.mono _ _)
      | (with_reducible exact LeO.refl _)
      | (with_reducible exact LeO.none _)
      | (with_reducible refine LeO.ite ?_ ?_)
      | (with_reducible refine LeO.bind ?_ (fun _ => ?_))
      | exact ih0 _ _ _ _ _ _
      | exact ih1 _ _ _ _ _ _ _ _
      | exact ih2 _ _ _ _ _ _ _
      | exact ih3 _ _ _ _
      | exact ih4 _ _ _ _ _ _ _
      | exact ih5 _ _ _ _
      | exact ih6 _ _ _ _
      | exact airchecklaw15_sane.mono _
      | exact aircheckref15_Made.mono _ _ _
      | exact aircheckref15_Same.mono _ _ _
      | exact aircheckref15_Spans.mono _ _ _
      | exact timeline_End.mono _ _
      | exact LeO.none _
      | refine LeO.ite ?_ ?_
      | refine LeO.bind ?_ (fun _ => ?_)
    · intro y0 y1 y2 y3 y4 y5 y6
      unfold airchecklaw15_TimelinePut.l0
      repeat' first
      | (with_reducible exact ih0 _ _ _ _ _ _)
      | (with_reducible exact ih1 _ _ _ _ _ _ _ _)
      | (with_reducible exact ih2 _ _ _ _ _ _ _)
      | (with_reducible exact ih3 _ _ _ _)
      | (with_reducible exact ih4 _ _ _ _ _ _ _)
      | (with_reducible exact ih5 _ _ _ _)
      | (with_reducible exact ih6 _ _ _ _)
      | (with_reducible exact airchecklaw15_sane.mono _)
      | (with_reducible exact aircheckref15_Made.mono _ _ _)
      | (with_reducible exact aircheckref15_Same.mono _ _ _)
      | (with_reducible exact aircheckref15_Spans.mono _ _ _)
      | (with_reducible exact timeline_End.mono _ _)
      | (with_reducible exact LeO.refl _)
      | (with_reducible exact LeO.none _)
      | (with_reducible refine LeO.ite ?_ ?_)
      | (with_reducible refine LeO.bind ?_ (fun _ => ?_))
      | exact ih0 _ _ _ _ _ _
      | exact ih1 _ _ _ _ _ _ _ _
      | exact ih2 _ _ _ _ _ _ _
      | exact ih3 _ _ _ _
      | exact ih4 _ _ _ _ _ _ _
      | exact ih5 _ _ _ _
      | exact ih6 _ _ _ _
      | exact airchecklaw15_sane.mono _
      | exact aircheckref15_Made.mono _ _ _
      | exact aircheckref15_Same.mono _ _ _
      | exact aircheckref15_Spans.mono _ _ _
      | exact timeline_End.mono _ _
      | exact LeO.none _
      | refine LeO.ite ?_ ?_
      | refine LeO.bind ?_ (fun _ => ?_)
    · intro y0 y1 y2 y3
      unfold airchecklaw15_TimelinePut.j5
      repeat' first
      | (with_reducible exact ih0 _ _ _ _ _ _)
      | (with_reducible exact ih1 _ _ _ _ _ _ _ _)
      | (with_reducible exact ih2 _ _ _ _ _ _ _)
      | (with_reducible exact ih3 _ _ _ _)
      | (with_reducible exact ih4 _ _ _ _ _ _ _)
      | (with_reducible exact ih5 _ _ _ _)
      | (with_reducible exact ih6 _ _ _ _)
      | (with_reducible exact airchecklaw15_sane.mono _)
      | (with_reducible exact aircheckref15_Made.mono _ _ _)
      | (with_reducible exact aircheckref15_Same.mono _ _ _)
      | (with_reducible exact aircheckref15_Spans.mono _ _ _)
      | (with_reducible exact timeline_End.mono _ _)
      | (with_reducible exact LeO.refl _)
      | (with_reducible exact LeO.none _)
      | (with_reducible refine LeO.ite ?_ ?_)
      | (with_reducible refine LeO.bind ?_ (fun _ => ?_))
      | exact ih0 _ _ _ _ _ _
      | exact ih1 _ _ _ _ _ _ _ _
      | exact ih2 _ _ _ _ _ _ _
      | exact ih3 _ _ _ _
      | exact ih4 _ _ _ _ _ _ _
      | exact ih5 _ _ _ _
      | exact ih6 _ _ _ _
      | exact airchecklaw15_sane.mono _
      | exact aircheckref15_Made.mono _ _ _
      | exact aircheckref15_Same.mono _ _ _
      | exact aircheckref15_Spans.mono _ _ _
      | exact timeline_End.mono _ _
      | exact LeO.none _
      | refine LeO.ite ?_ ?_
      | refine LeO.bind ?_ (fun _ => ?_)
    · intro y0 y1 y2 y3
      unfold airchecklaw15_TimelinePut.j6
      repeat' first
      | (with_reducible exact ih0 _ _ _ _ _ _)
      | (with_reducible exact ih1 _ _ _ _ _ _ _ _)
      | (with_reducible exact ih2 _ _ _ _ _ _ _)
      | (with_reducible exact ih3 _ _ _ _)
      | (with_reducible exact ih4 _ _ _ _ _ _ _)
      | (with_reducible exact ih5 _ _ _ _)
      | (with_reducible exact ih6 _ _ _ _)
      | (with_reducible exact airchecklaw15_sane.mono _)
      | (with_reducible exact aircheckref15_Made.mono _ _ _)
      | (with_reducible exact aircheckref15_Same.mono _ _ _)
      | (with_reducible exact aircheckref15_Spans.mono _ _ _)
      | (with_reducible exact timeline_End.mono _ _)
      | (with_reducible exact LeO.refl _)
      | (with_reducible exact LeO.none _)
      | (with_reducible refine LeO.ite ?_ ?_)
      | (with_reducible refine LeO.bind ?_ (fun _ => ?_))
      | exact ih0 _ _ _ _ _ _
      | exact ih1 _ _ _ _ _ _ _ _
      | exact ih2 _ _ _ _ _ _ _
      | exact ih3 _ _ _ _
      | exact ih4 _ _ _ _ _ _ _
      | exact ih5 _ _ _ _
      | exact ih6 _ _ _ _
      | exact airchecklaw15_sane.mono _
      | exact aircheckref15_Made.mono _ _ _
      | exact aircheckref15_Same.mono _ _ _
      | exact aircheckref15_Spans.mono _ _ _
      | exact timeline_End.mono _ _
      | exact LeO.none _
      | refine LeO.ite ?_ ?_
      | refine LeO.bind ?_ (fun _ => ?_)
theorem airchecklaw15_TimelinePut.mono : ∀ a0 a1 a2 a3 a4 a5 a6 a7 a8 k, LeO (airchecklaw15_TimelinePut.f k a0 a1 a2 a3 a4 a5 a6 a7 a8) (airchecklaw15_TimelinePut.f (k + 1) a0 a1 a2 a3 a4 a5 a6 a7 a8) := by
  intro a0 a1 a2 a3 a4 a5 a6 a7 a8 k
  obtain ⟨ih0, ih1, ih2, ih3, ih4, ih5, ih6⟩ := airchecklaw15_TimelinePut.mono_l k
  unfold airchecklaw15_TimelinePut.f
  repeat' first
      | (with_reducible exact ih0 _ _ _ _ _ _)
      | (with_reducible exact ih1 _ _ _ _ _ _ _ _)
      | (with_reducible exact ih2 _ _ _ _ _ _ _)
      | (with_reducible exact ih3 _ _ _ _)
      | (with_reducible exact ih4 _ _ _ _ _ _ _)
      | (with_reducible exact ih5 _ _ _ _)
      | (with_reducible exact ih6 _ _ _ _)
      | (with_reducible exact airchecklaw15_sane.mono _)
      | (with_reducible exact aircheckref15_Made.mono _ _ _)
      | (with_reducible exact aircheckref15_Same.mono _ _ _)
      | (with_reducible exact aircheckref15_Spans.mono _ _ _)
      | (with_reducible exact timeline_End.mono _ _)
      | (with_reducible exact LeO.refl _)
      | (with_reducible exact LeO.none _)
      | (with_reducible refine LeO.ite ?_ ?_)
      | (with_reducible refine LeO.bind ?_ (fun _ => ?_))
      | exact ih0 _ _ _ _ _ _
      | exact ih1 _ _ _ _ _ _ _ _
      | exact ih2 _ _ _ _ _ _ _
      | exact ih3 _ _ _ _
      | exact ih4 _ _ _ _ _ _ _
      | exact ih5 _ _ _ _
      | exact ih6 _ _ _ _
      | exact airchecklaw15_sane.mono _
      | exact aircheckref15_Made.mono _ _ _
      | exact aircheckref15_Same.mono _ _ _
      | exact aircheckref15_Spans.mono _ _ _
      | exact timeline_End.mono _ _
      | exact LeO.none _
      | refine LeO.ite ?_ ?_
      | refine LeO.bind ?_ (fun _ => ?_)
def airchecklaw15_TimelinePut.T18 : Bool × List (List Nat × List Nat) := (true, [([], []), ([], []), ([1], [1]), ([2], [2]), ([3], [3]), ([], []), ([5], [5]), ([6], [6]), ([7], [7]), ([4, 8], [4, 8]), ([0, 9], [0, 9]), ([10], [10]), ([11], [11]), ([11], [11]), ([12, 10, 0, 1, 2, 3, 4, 5, 6, 7, 8, 9, 10, 11, 12], [12]), ([13, 14, 0, 1, 2, 3, 4, 5, 6, 7, 8, 9, 10, 11, 12, 13, 14], [13])])
def airchecklaw15_TimelinePut.B18 : List Nat := [0, 0, 2, 6, 14, 0, 32, 96, 224, 510, 1023, 2047, 4095, 4095, 8191, 32767]
theorem airchecklaw15_TimelinePut.tab18 : rtab .any (opsOf Try.f5 18) = airchecklaw15_TimelinePut.T18 := by kernel_rfl
theorem airchecklaw15_TimelinePut.bits18 : waitsOk airchecklaw15_TimelinePut.T18.2 airchecklaw15_TimelinePut.B18 = true := by kernel_rfl
def airchecklaw15_TimelinePut.T29 : Bool × List (List Nat × List Nat) := (true, [([], []), ([0], [0]), ([1], [1]), ([2], [2]), ([], []), ([4], [4]), ([5], [5]), ([6], [6]), ([3, 7], [3, 7]), ([8], [8]), ([9], [9]), ([10, 9], [9, 10]), ([11, 9], [9, 11]), ([12, 9], [9, 12]), ([9], [9]), ([14, 9], [9, 14]), ([15, 9], [9, 15]), ([16, 9], [9, 16]), ([13, 17, 9], [9, 13, 17]), ([9, 18], [9, 18])])
def airchecklaw15_TimelinePut.B29 : List Nat := [0, 1, 3, 7, 0, 16, 48, 112, 255, 511, 1023, 2047, 4095, 8191, 1023, 17407, 50175, 115711, 262143, 524287]
theorem airchecklaw15_TimelinePut.tab29 : rtab .any (opsOf Try.f5 29) = airchecklaw15_TimelinePut.T29 := by kernel_rfl
theorem airchecklaw15_TimelinePut.bits29 : waitsOk airchecklaw15_TimelinePut.T29.2 airchecklaw15_TimelinePut.B29 = true := by kernel_rfl
set_option maxHeartbeats 8000000 in
set_option maxRecDepth 100000 in
theorem airchecklaw15_TimelinePut.calls (k : Nat) (a0 : Int) (A1 : Option Addr) (c1 : Nat) (l1 : List (S29)) (a2_0 : Int) (a2_1 : Int) (a2_2 : Int) (a2_3 : Int) (a2_4 : Int) (a2_5 : Int) (a3 : Int) (r : Bool) (hr0 : Aside0 (r = true)) (w : World) (hr1 : Kd.C k29 w A1 l1.length l1) (hc1 : l1.length ≤ c1) (h : airchecklaw15_TimelinePut.f k a0 l1 a2_0 a2_1 a2_2 a2_3 a2_4 a2_5 a3 = some r) :
    Calls Try.prog 5 #[.int .i64 a0, .slice A1 l1.length c1, .agg #[.int .i64 a2_0, .int .i64 a2_1, .int .i64 a2_2, .int .i64 a2_3, .int .i64 a2_4, .int .i64 a2_5], .int .i64 a3] w fun e w' => e = .returned (.bool r) ∧ Below w.heap.size w w' := by
  have hu56 := Try.underlying56
  have hu25 := Try.underlying25
  have hu45 := Try.underlying45
  have HR1 := Aside0.mk hr1
  have HC1 := Aside0.mk hc1
  clear hr1 hc1
  have HB := Aside0.mk (Below.refl w.heap.size w)
  have H : ((airchecklaw15_sane.f k).bind fun t208 => (if t208 = true then ((aircheckref15_Made.f k a0 l1).bind fun t209 => ((airchecklaw15_pick.f a0 400).bind fun t212 => ((aircheckref15_Spans.f k (wrap64 (1 + t212)) (([(⟨a2_0, a2_1, a2_2⟩ : S29), (⟨a2_3, a2_4, a2_5⟩ : S29)] : List (S29)))).bind fun t213 => (if 0 < (t213.length : Int) then ((timeline_Put.f t209 ((rd_T25 t213 0).f0) ((rd_T25 t213 0).f1) ((rd_T25 t213 0).f2)).bind fun bt217 => ((timeline_Put.f bt217.1 ((rd_T25 t213 0).f0) ((rd_T25 t213 0).f1) ((rd_T25 t213 0).f2)).bind fun bt222 => (if bt217.2 = 0 then (if bt222.2 = 0 then ((aircheckref15_Same.f k bt217.1 bt222.1).bind fun t226 => (if t226 = true then ((timeline_End.f k bt217.1).bind fun t227 => (airchecklaw15_TimelinePut.j0 k a3 t209 (wrap64 (1 + t212)) t213 bt217.1 (t227 != (wrap64 (1 + t212))))) else (airchecklaw15_TimelinePut.j0 k a3 t209 (wrap64 (1 + t212)) t213 bt217.1 true))) else (airchecklaw15_TimelinePut.j0 k a3 t209 (wrap64 (1 + t212)) t213 bt217.1 true)) else (airchecklaw15_TimelinePut.j0 k a3 t209 (wrap64 (1 + t212)) t213 bt217.1 true)))) else (none))))) else (some false))) = some r := h
  clear h
  obtain ⟨y205, hy205⟩ : ∃ y_ : List (S29), y_ = (([(⟨a2_0, a2_1, a2_2⟩ : S29), (⟨a2_3, a2_4, a2_5⟩ : S29)] : List (S29))) := ⟨_, rfl⟩
  replace H : ((airchecklaw15_sane.f k).bind fun t208 => (if t208 = true then ((aircheckref15_Made.f k a0 l1).bind fun t209 => ((airchecklaw15_pick.f a0 400).bind fun t212 => ((aircheckref15_Spans.f k (wrap64 (1 + t212)) y205).bind fun t213 => (if 0 < (t213.length : Int) then ((timeline_Put.f t209 ((rd_T25 t213 0).f0) ((rd_T25 t213 0).f1) ((rd_T25 t213 0).f2)).bind fun bt217 => ((timeline_Put.f bt217.1 ((rd_T25 t213 0).f0) ((rd_T25 t213 0).f1) ((rd_T25 t213 0).f2)).bind fun bt222 => (if bt217.2 = 0 then (if bt222.2 = 0 then ((aircheckref15_Same.f k bt217.1 bt222.1).bind fun t226 => (if t226 = true then ((timeline_End.f k bt217.1).bind fun t227 => (airchecklaw15_TimelinePut.j0 k a3 t209 (wrap64 (1 + t212)) t213 bt217.1 (t227 != (wrap64 (1 + t212))))) else (airchecklaw15_TimelinePut.j0 k a3 t209 (wrap64 (1 + t212)) t213 bt217.1 true))) else (airchecklaw15_TimelinePut.j0 k a3 t209 (wrap64 (1 + t212)) t213 bt217.1 true)) else (airchecklaw15_TimelinePut.j0 k a3 t209 (wrap64 (1 + t212)) t213 bt217.1 true)))) else (none))))) else (some false))) = some r := by first | (rw [hy205]; with_reducible exact H) | (have H2_ := (Option.bind_some _ _).symm.trans H; rw [hy205]; with_reducible exact H2_) | (have H2_ := (Option.bind_some _ _).symm.trans H; with_reducible exact H2_) | with_reducible exact H | (rw [hy205]; exact H) | exact H
  have Ny205 := Aside0.mk hy205
  clear hy205
  replace H := Option.bind_eq_some_iff.mp H
  obtain ⟨t208, A50, H⟩ := H
  replace H : (if t208 = true then ((aircheckref15_Made.f k a0 l1).bind fun t209 => ((airchecklaw15_pick.f a0 400).bind fun t212 => ((aircheckref15_Spans.f k (wrap64 (1 + t212)) y205).bind fun t213 => (if 0 < (t213.length : Int) then ((timeline_Put.f t209 ((rd_T25 t213 0).f0) ((rd_T25 t213 0).f1) ((rd_T25 t213 0).f2)).bind fun bt217 => ((timeline_Put.f bt217.1 ((rd_T25 t213 0).f0) ((rd_T25 t213 0).f1) ((rd_T25 t213 0).f2)).bind fun bt222 => (if bt217.2 = 0 then (if bt222.2 = 0 then ((aircheckref15_Same.f k bt217.1 bt222.1).bind fun t226 => (if t226 = true then ((timeline_End.f k bt217.1).bind fun t227 => (airchecklaw15_TimelinePut.j0 k a3 t209 (wrap64 (1 + t212)) t213 bt217.1 (t227 != (wrap64 (1 + t212))))) else (airchecklaw15_TimelinePut.j0 k a3 t209 (wrap64 (1 + t212)) t213 bt217.1 true))) else (airchecklaw15_TimelinePut.j0 k a3 t209 (wrap64 (1 + t212)) t213 bt217.1 true)) else (airchecklaw15_TimelinePut.j0 k a3 t209 (wrap64 (1 + t212)) t213 bt217.1 true)))) else (none))))) else (some false)) = some r := H
  have A5 := Aside0.mk A50
  clear A50
  by_cases c6 : t208 = true
  · subst c6
    have H1 : ((aircheckref15_Made.f k a0 l1).bind fun t209 => ((airchecklaw15_pick.f a0 400).bind fun t212 => ((aircheckref15_Spans.f k (wrap64 (1 + t212)) y205).bind fun t213 => (if 0 < (t213.length : Int) then ((timeline_Put.f t209 ((rd_T25 t213 0).f0) ((rd_T25 t213 0).f1) ((rd_T25 t213 0).f2)).bind fun bt217 => ((timeline_Put.f bt217.1 ((rd_T25 t213 0).f0) ((rd_T25 t213 0).f1) ((rd_T25 t213 0).f2)).bind fun bt222 => (if bt217.2 = 0 then (if bt222.2 = 0 then ((aircheckref15_Same.f k bt217.1 bt222.1).bind fun t226 => (if t226 = true then ((timeline_End.f k bt217.1).bind fun t227 => (airchecklaw15_TimelinePut.j0 k a3 t209 (wrap64 (1 + t212)) t213 bt217.1 (t227 != (wrap64 (1 + t212))))) else (airchecklaw15_TimelinePut.j0 k a3 t209 (wrap64 (1 + t212)) t213 bt217.1 true))) else (airchecklaw15_TimelinePut.j0 k a3 t209 (wrap64 (1 + t212)) t213 bt217.1 true)) else (airchecklaw15_TimelinePut.j0 k a3 t209 (wrap64 (1 + t212)) t213 bt217.1 true)))) else (none))))) = some r := by rw [if_pos rfl] at H; exact H
    clear H
    have H := H1
    clear H1
    replace H := Option.bind_eq_some_iff.mp H
    obtain ⟨t209, A70, H⟩ := H
    replace H : ((airchecklaw15_pick.f a0 400).bind fun t212 => ((aircheckref15_Spans.f k (wrap64 (1 + t212)) y205).bind fun t213 => (if 0 < (t213.length : Int) then ((timeline_Put.f t209 ((rd_T25 t213 0).f0) ((rd_T25 t213 0).f1) ((rd_T25 t213 0).f2)).bind fun bt217 => ((timeline_Put.f bt217.1 ((rd_T25 t213 0).f0) ((rd_T25 t213 0).f1) ((rd_T25 t213 0).f2)).bind fun bt222 => (if bt217.2 = 0 then (if bt222.2 = 0 then ((aircheckref15_Same.f k bt217.1 bt222.1).bind fun t226 => (if t226 = true then ((timeline_End.f k bt217.1).bind fun t227 => (airchecklaw15_TimelinePut.j0 k a3 t209 (wrap64 (1 + t212)) t213 bt217.1 (t227 != (wrap64 (1 + t212))))) else (airchecklaw15_TimelinePut.j0 k a3 t209 (wrap64 (1 + t212)) t213 bt217.1 true))) else (airchecklaw15_TimelinePut.j0 k a3 t209 (wrap64 (1 + t212)) t213 bt217.1 true)) else (airchecklaw15_TimelinePut.j0 k a3 t209 (wrap64 (1 + t212)) t213 bt217.1 true)))) else (none)))) = some r := H
    have A7 := Aside0.mk A70
    clear A70
    replace H := Option.bind_eq_some_iff.mp H
    obtain ⟨t212, A80, H⟩ := H
    replace H : ((aircheckref15_Spans.f k (wrap64 (1 + t212)) y205).bind fun t213 => (if 0 < (t213.length : Int) then ((timeline_Put.f t209 ((rd_T25 t213 0).f0) ((rd_T25 t213 0).f1) ((rd_T25 t213 0).f2)).bind fun bt217 => ((timeline_Put.f bt217.1 ((rd_T25 t213 0).f0) ((rd_T25 t213 0).f1) ((rd_T25 t213 0).f2)).bind fun bt222 => (if bt217.2 = 0 then (if bt222.2 = 0 then ((aircheckref15_Same.f k bt217.1 bt222.1).bind fun t226 => (if t226 = true then ((timeline_End.f k bt217.1).bind fun t227 => (airchecklaw15_TimelinePut.j0 k a3 t209 (wrap64 (1 + t212)) t213 bt217.1 (t227 != (wrap64 (1 + t212))))) else (airchecklaw15_TimelinePut.j0 k a3 t209 (wrap64 (1 + t212)) t213 bt217.1 true))) else (airchecklaw15_TimelinePut.j0 k a3 t209 (wrap64 (1 + t212)) t213 bt217.1 true)) else (airchecklaw15_TimelinePut.j0 k a3 t209 (wrap64 (1 + t212)) t213 bt217.1 true)))) else (none))) = some r := H
    have A8 := Aside0.mk A80
    clear A80
    replace H := Option.bind_eq_some_iff.mp H
    obtain ⟨t213, A90, H⟩ := H
    replace H : (if 0 < (t213.length : Int) then ((timeline_Put.f t209 ((rd_T25 t213 0).f0) ((rd_T25 t213 0).f1) ((rd_T25 t213 0).f2)).bind fun bt217 => ((timeline_Put.f bt217.1 ((rd_T25 t213 0).f0) ((rd_T25 t213 0).f1) ((rd_T25 t213 0).f2)).bind fun bt222 => (if bt217.2 = 0 then (if bt222.2 = 0 then ((aircheckref15_Same.f k bt217.1 bt222.1).bind fun t226 => (if t226 = true then ((timeline_End.f k bt217.1).bind fun t227 => (airchecklaw15_TimelinePut.j0 k a3 t209 (wrap64 (1 + t212)) t213 bt217.1 (t227 != (wrap64 (1 + t212))))) else (airchecklaw15_TimelinePut.j0 k a3 t209 (wrap64 (1 + t212)) t213 bt217.1 true))) else (airchecklaw15_TimelinePut.j0 k a3 t209 (wrap64 (1 + t212)) t213 bt217.1 true)) else (airchecklaw15_TimelinePut.j0 k a3 t209 (wrap64 (1 + t212)) t213 bt217.1 true)))) else (none)) = some r := H
    have A9 := Aside0.mk A90
    clear A90
    by_cases c10 : 0 < (t213.length : Int)
    · rw [if_pos c10] at H
      have c10b0 : decide (0 < (t213.length : Int)) = true := decide_eq_true c10
      have c10b1 : decide (0 < t213.length) = true := decide_eq_true (by omega)
      clear c10
      replace H := Option.bind_eq_some_iff.mp H
      obtain ⟨⟨t217, t220⟩, A110, H⟩ := H
      replace H : ((timeline_Put.f t217 ((rd_T25 t213 0).f0) ((rd_T25 t213 0).f1) ((rd_T25 t213 0).f2)).bind fun bt222 => (if t220 = 0 then (if bt222.2 = 0 then ((aircheckref15_Same.f k t217 bt222.1).bind fun t226 => (if t226 = true then ((timeline_End.f k t217).bind fun t227 => (airchecklaw15_TimelinePut.j0 k a3 t209 (wrap64 (1 + t212)) t213 t217 (t227 != (wrap64 (1 + t212))))) else (airchecklaw15_TimelinePut.j0 k a3 t209 (wrap64 (1 + t212)) t213 t217 true))) else (airchecklaw15_TimelinePut.j0 k a3 t209 (wrap64 (1 + t212)) t213 t217 true)) else (airchecklaw15_TimelinePut.j0 k a3 t209 (wrap64 (1 + t212)) t213 t217 true))) = some r := H
      have A11 := Aside0.mk A110
      clear A110
      replace H := Option.bind_eq_some_iff.mp H
      obtain ⟨⟨t222, t225⟩, A120, H⟩ := H
      replace H : (if t220 = 0 then (if t225 = 0 then ((aircheckref15_Same.f k t217 t222).bind fun t226 => (if t226 = true then ((timeline_End.f k t217).bind fun t227 => (airchecklaw15_TimelinePut.j0 k a3 t209 (wrap64 (1 + t212)) t213 t217 (t227 != (wrap64 (1 + t212))))) else (airchecklaw15_TimelinePut.j0 k a3 t209 (wrap64 (1 + t212)) t213 t217 true))) else (airchecklaw15_TimelinePut.j0 k a3 t209 (wrap64 (1 + t212)) t213 t217 true)) else (airchecklaw15_TimelinePut.j0 k a3 t209 (wrap64 (1 + t212)) t213 t217 true)) = some r := H
      have A12 := Aside0.mk A120
      clear A120
      have HC13 := Aside0.mk H
      clear H
      go_enter Try.func5, Try.ntmps5
      go_upto_region 8 with (first | ((with_reducible refine gate_dst (N := 6) rfl ?_); refine Open.R_boxlit k29 _ 56 ?hg (N := 6) ?hd (xs := ([(⟨a2_0, a2_1, a2_2⟩ : S29), (⟨a2_3, a2_4, a2_5⟩ : S29)] : List (S29))) (inner := [.int .i64 a2_0, .int .i64 a2_1, .int .i64 a2_2, .int .i64 a2_3, .int .i64 a2_4, .int .i64 a2_5]) (ok := fun _ => True) (okp := fun _ => True) ?hr ?hp (fun _ hk => hk) trivial (Below.refl _ _) (Nat.le_refl _) (by simp) (n := 2) rfl ?_; (case hd => rfl); (case hg => rfl); (case hr => first | (go_simp; done) | (go_simp; rfl)); (case hp => exact (Reps.c3 (show Kd.M k29 _ _ _ (⟨a2_0, a2_1, a2_2⟩ : S29) [.int .i64 a2_0, .int .i64 a2_1, .int .i64 a2_2] from (k29_mkM _ _ _ (⟨a2_0, a2_1, a2_2⟩ : S29) )) (Reps.c3 (show Kd.M k29 _ _ _ (⟨a2_3, a2_4, a2_5⟩ : S29) [.int .i64 a2_3, .int .i64 a2_4, .int .i64 a2_5] from (k29_mkM _ _ _ (⟨a2_3, a2_4, a2_5⟩ : S29) )) (Reps.none _ _)))); intro gbxv206 v206 w14 hv_ ho15 hb hg_ hnew_; have HVy205 := Aside0.mk hv_; clear hv_ hg_ hnew_; (first | rw [← Ny205.out] at ho15 | (simp only [Int.reduceToNat] at ho15; rw [← Ny205.out] at ho15)); have n0_ := Aside0.mk (Kd.R_lower ho15 (below_size (by repeat (first | (with_reducible first | exact HB.out | apply below_alloc | apply pw_below_drewN | apply below_drew1) | exact HB.out)))); have n1_ := Aside0.mk (below_step (by repeat (first | (with_reducible first | exact HB.out | apply below_alloc | apply pw_below_drewN | apply below_drew1) | exact HB.out)) hb); clear HB; have HO207 := n0_; have HB := n1_; clear n0_ n1_; clear hb ho15) | ((with_reducible refine gate_callee (f := 10) rfl ?_); refine goesL_ (some 34) rfl rfl Try.func10 (by kernel_rfl) rfl #[] rfl (by (try simp only [List.map_toArray, List.map_cons, List.map_nil]); first | done | rfl | (simp only [List.length_drop, List.length_take]; rfl)) ?_; (with_reducible refine (airchecklaw15_sane.calls k  true _ A5.out).mono ?_); rintro e w16 ⟨rfl, hb⟩; refine ⟨_, rfl, ?_⟩; have n0_ := Aside0.mk (Kd.R_below (by (with_reducible repeat (first | apply Kd.R_alloc | apply Kd.R_drewN | apply Kd.R_drew)); exact HO207.out) hb); have n1_ := Aside0.mk (below_step (by repeat (first | (with_reducible first | exact HB.out | apply below_alloc | apply pw_below_drewN | apply below_drew1) | exact HB.out)) hb); clear HO207; clear HB; have HO207 := n0_; have HB := n1_; clear n0_ n1_; (try clear hb); (try clear hb2); (try clear hk); (try clear hi)) | ((with_reducible refine gate_callee (f := 11) rfl ?_); refine goesL_ (some 38) rfl rfl Try.func11 (by kernel_rfl) rfl #[.int .i64 a0, .slice A1 l1.length c1] rfl (by (try simp only [List.map_toArray, List.map_cons, List.map_nil]); first | done | rfl | (simp only [List.length_drop, List.length_take]; rfl)) ?_; (with_reducible refine (aircheckref15_Made.calls k a0 _ _ l1 t209 _ ?side1 ?side2 A7.out).mono ?_); (case side1 => repeat (first | exact (Kd.C_below HR1.out HB.out) | (with_reducible refine Kd.C_alloc ?_ _) | (with_reducible refine Kd.C_drewN ?_ _) | (with_reducible refine Kd.C_drew ?_))); (case side2 => exact HC1.out); rintro e w17 ⟨v210, rfl, ho0, hb⟩; refine ⟨_, rfl, ?_⟩; have n0_ := Aside0.mk (Kd.R_below (by (with_reducible repeat (first | apply Kd.R_alloc | apply Kd.R_drewN | apply Kd.R_drew)); exact HO207.out) hb); have n1_ := Aside0.mk (Kd.R_lower ho0 (below_size (by repeat (first | (with_reducible first | exact HB.out | apply below_alloc | apply pw_below_drewN | apply below_drew1) | exact HB.out)))); have n2_ := Aside0.mk (below_step (by repeat (first | (with_reducible first | exact HB.out | apply below_alloc | apply pw_below_drewN | apply below_drew1) | exact HB.out)) hb); clear HO207; clear HB; have HO207 := n0_; have HO211 := n1_; have HB := n2_; clear n0_ n1_ n2_; (try clear hb); (try clear hb2); (try clear hk); (try clear hi); (try clear ho0)) | ((with_reducible refine gate_callee (f := 13) rfl ?_); refine goesL_ (some 40) rfl rfl Try.func13 (by kernel_rfl) rfl #[.int .i64 a0, .int .i64 400] rfl (by (try simp only [List.map_toArray, List.map_cons, List.map_nil]); first | done | rfl | (simp only [List.length_drop, List.length_take]; rfl)) ?_; (with_reducible refine (airchecklaw15_pick.calls a0 400 t212 _ A8.out).mono ?_); rintro e w' ⟨rfl, ⟨nd, rfl⟩⟩; refine ⟨_, rfl, ?_⟩) | ((with_reducible refine gate_dst (N := 43) rfl ?_); refine Open.slice_boxed (N := 43) ?hg ?hd ?hr HVy205.out ?_; (case hd => rfl); (case hg => rfl); (case hr => first | (go_simp; done) | (go_simp; rfl)); obtain ⟨Ao18, co18, eo18⟩ := Kd.R_slice HO207.out; subst eo18) | ((with_reducible refine gate_callee (f := 12) rfl ?_); refine goesL_ (some 44) rfl rfl Try.func12 (by kernel_rfl) rfl #[.int .i64 (wrap64 (1 + t212)), .slice Ao18 y205.length co18] rfl (by (try simp only [List.map_toArray, List.map_cons, List.map_nil]); first | done | rfl | (simp only [List.length_drop, List.length_take]; rfl)) ?_; (with_reducible refine (aircheckref15_Spans.calls k (wrap64 (1 + t212)) _ _ y205 t213 _ ?side1 ?side2 A9.out).mono ?_); (case side1 => repeat (first | exact (Kd.R_reads' HO207.out).2.2 | (with_reducible refine Kd.C_alloc ?_ _) | (with_reducible refine Kd.C_drewN ?_ _) | (with_reducible refine Kd.C_drew ?_))); (case side2 => exact (Kd.R_reads' HO207.out).2.1); rintro e w19 ⟨v214, rfl, ho0, hb⟩; refine ⟨_, rfl, ?_⟩; have n0_ := Aside0.mk (Kd.R_below (by (with_reducible repeat (first | apply Kd.R_alloc | apply Kd.R_drewN | apply Kd.R_drew)); exact HO207.out) hb); have n1_ := Aside0.mk (Kd.R_elder' (by (with_reducible repeat (first | apply Kd.R_alloc | apply Kd.R_drewN | apply Kd.R_drew)); exact HO211.out) (Kd.R_base ho0) hb); have n2_ := Aside0.mk (Kd.R_lower (Kd.R_new' ho0 (Kd.R_lt (by (with_reducible repeat (first | apply Kd.R_alloc | apply Kd.R_drewN | apply Kd.R_drew)); exact HO211.out))) (below_size (by repeat (first | (with_reducible first | exact HB.out | apply below_alloc | apply pw_below_drewN | apply below_drew1) | exact HB.out)))); have n3_ := Aside0.mk (below_step (by repeat (first | (with_reducible first | exact HB.out | apply below_alloc | apply pw_below_drewN | apply below_drew1) | exact HB.out)) hb); clear HO207; clear HO211; clear HB; have HO207 := n0_; have HO211 := n1_; have HO215 := n2_; have HB := n3_; clear n0_ n1_ n2_ n3_; (try clear hb); (try clear hb2); (try clear hk); (try clear hi); (try clear ho0); obtain ⟨Ao20, co20, eo20⟩ := Kd.R_slice HO215.out; subst eo20; have p216 : 0 ≤ (0 : Int) := (by omega); have q216 : 0 < (t213.length : Int) := of_decide_eq_true (by first | (with_reducible assumption) | assumption); obtain ⟨ad216, e216, hx216_0, hx216_1, hx216_2⟩ := at_T25 (Kd.R_reads' HO215.out).2.2 0 p216 q216; cases e216; have qi216 : (0 < t213.length) = True := eq_true (by omega); (try rw [show ((0 : Int)).toNat = 0 from rfl] at hx216_0); (try rw [show 0 * 3 = 0 from rfl] at hx216_0); (try rw [Addr.add_zero'] at hx216_0); (try rw [show ((0 : Int)).toNat = 0 from rfl] at hx216_1); (try rw [show 0 * 3 = 0 from rfl] at hx216_1); (try rw [Addr.add_zero'] at hx216_1); (try rw [show ((0 : Int)).toNat = 0 from rfl] at hx216_2); (try rw [show 0 * 3 = 0 from rfl] at hx216_2); (try rw [Addr.add_zero'] at hx216_2); replace p216 := eq_true p216; replace q216 := eq_true q216; obtain ⟨Ao21, co21, eo21⟩ := Kd.R_slice HO211.out; subst eo21) | ((with_reducible refine gate_callee (f := 25) rfl ?_); refine goesL_ (some 50) rfl rfl Try.func25 (by kernel_rfl) rfl #[.slice Ao21 t209.length co21, .agg #[.int .i64 ((rd_T25 t213 0).f0), .int .i64 ((rd_T25 t213 0).f1), .int .i64 ((rd_T25 t213 0).f2)]] rfl (by (try simp only [List.map_toArray, List.map_cons, List.map_nil]); first | done | rfl | (simp only [List.length_drop, List.length_take]; rfl)) ?_; (with_reducible refine (timeline_Put.calls _ _ t209 ((rd_T25 t213 0).f0) ((rd_T25 t213 0).f1) ((rd_T25 t213 0).f2) t217 t220 _ ?side1 ?side2 A11.out).mono ?_); (case side1 => repeat (first | exact (Kd.R_reads' HO211.out).2.2 | (with_reducible refine Kd.C_alloc ?_ _) | (with_reducible refine Kd.C_drewN ?_ _) | (with_reducible refine Kd.C_drew ?_))); (case side2 => exact (Kd.R_reads' HO211.out).2.1); rintro e w22 ⟨v218, rfl, ho0, hb⟩; refine ⟨_, rfl, ?_⟩; have n0_ := Aside0.mk (Kd.R_below (by (with_reducible repeat (first | apply Kd.R_alloc | apply Kd.R_drewN | apply Kd.R_drew)); exact HO207.out) hb); have n1_ := Aside0.mk (Kd.R_elder' (by (with_reducible repeat (first | apply Kd.R_alloc | apply Kd.R_drewN | apply Kd.R_drew)); exact HO211.out) (Kd.R_base ho0) hb); have n2_ := Aside0.mk (Kd.R_elder' (by (with_reducible repeat (first | apply Kd.R_alloc | apply Kd.R_drewN | apply Kd.R_drew)); exact HO215.out) (Kd.R_base ho0) hb); have n3_ := Aside0.mk (Kd.R_lower (Kd.R_new' (Kd.R_new' ho0 (Kd.R_lt (by (with_reducible repeat (first | apply Kd.R_alloc | apply Kd.R_drewN | apply Kd.R_drew)); exact HO211.out))) (Kd.R_lt (by (with_reducible repeat (first | apply Kd.R_alloc | apply Kd.R_drewN | apply Kd.R_drew)); exact HO215.out))) (below_size (by repeat (first | (with_reducible first | exact HB.out | apply below_alloc | apply pw_below_drewN | apply below_drew1) | exact HB.out)))); have n4_ := Aside0.mk (below_step (by repeat (first | (with_reducible first | exact HB.out | apply below_alloc | apply pw_below_drewN | apply below_drew1) | exact HB.out)) hb); clear HO207; clear HO211; clear HO215; clear HB; have HO207 := n0_; have HO211 := n1_; have HO215 := n2_; have HO219 := n3_; have HB := n4_; clear n0_ n1_ n2_ n3_ n4_; (try clear hb); (try clear hb2); (try clear hk); (try clear hi); (try clear ho0); have p221 : 0 ≤ (0 : Int) := (by omega); have q221 : 0 < (t213.length : Int) := of_decide_eq_true (by first | (with_reducible assumption) | assumption); obtain ⟨ad221, e221, hx221_0, hx221_1, hx221_2⟩ := at_T25 (Kd.R_reads' HO215.out).2.2 0 p221 q221; obtain rfl : ad216 = ad221 := (by injection e221); have qi221 : (0 < t213.length) = True := eq_true (by omega); (try rw [show ((0 : Int)).toNat = 0 from rfl] at hx221_0); (try rw [show 0 * 3 = 0 from rfl] at hx221_0); (try rw [Addr.add_zero'] at hx221_0); (try rw [show ((0 : Int)).toNat = 0 from rfl] at hx221_1); (try rw [show 0 * 3 = 0 from rfl] at hx221_1); (try rw [Addr.add_zero'] at hx221_1); (try rw [show ((0 : Int)).toNat = 0 from rfl] at hx221_2); (try rw [show 0 * 3 = 0 from rfl] at hx221_2); (try rw [Addr.add_zero'] at hx221_2); replace p221 := eq_true p221; replace q221 := eq_true q221; obtain ⟨Ao23, co23, eo23⟩ := Kd.R_slice HO219.out; subst eo23) | ((with_reducible refine gate_callee (f := 25) rfl ?_); refine goesL_ (some 58) rfl rfl Try.func25 (by kernel_rfl) rfl #[.slice Ao23 t217.length co23, .agg #[.int .i64 ((rd_T25 t213 0).f0), .int .i64 ((rd_T25 t213 0).f1), .int .i64 ((rd_T25 t213 0).f2)]] rfl (by (try simp only [List.map_toArray, List.map_cons, List.map_nil]); first | done | rfl | (simp only [List.length_drop, List.length_take]; rfl)) ?_; (with_reducible refine (timeline_Put.calls _ _ t217 ((rd_T25 t213 0).f0) ((rd_T25 t213 0).f1) ((rd_T25 t213 0).f2) t222 t225 _ ?side1 ?side2 A12.out).mono ?_); (case side1 => repeat (first | exact (Kd.R_reads' HO219.out).2.2 | (with_reducible refine Kd.C_alloc ?_ _) | (with_reducible refine Kd.C_drewN ?_ _) | (with_reducible refine Kd.C_drew ?_))); (case side2 => exact (Kd.R_reads' HO219.out).2.1); rintro e w24 ⟨v223, rfl, ho0, hb⟩; refine ⟨_, rfl, ?_⟩; have n0_ := Aside0.mk (Kd.R_below (by (with_reducible repeat (first | apply Kd.R_alloc | apply Kd.R_drewN | apply Kd.R_drew)); exact HO207.out) hb); have n1_ := Aside0.mk (Kd.R_elder' (by (with_reducible repeat (first | apply Kd.R_alloc | apply Kd.R_drewN | apply Kd.R_drew)); exact HO211.out) (Kd.R_base ho0) hb); have n2_ := Aside0.mk (Kd.R_elder' (by (with_reducible repeat (first | apply Kd.R_alloc | apply Kd.R_drewN | apply Kd.R_drew)); exact HO215.out) (Kd.R_base ho0) hb); have n3_ := Aside0.mk (Kd.R_elder' (by (with_reducible repeat (first | apply Kd.R_alloc | apply Kd.R_drewN | apply Kd.R_drew)); exact HO219.out) (Kd.R_base ho0) hb); have n4_ := Aside0.mk (Kd.R_lower (Kd.R_new' (Kd.R_new' (Kd.R_new' ho0 (Kd.R_lt (by (with_reducible repeat (first | apply Kd.R_alloc | apply Kd.R_drewN | apply Kd.R_drew)); exact HO211.out))) (Kd.R_lt (by (with_reducible repeat (first | apply Kd.R_alloc | apply Kd.R_drewN | apply Kd.R_drew)); exact HO215.out))) (Kd.R_lt (by (with_reducible repeat (first | apply Kd.R_alloc | apply Kd.R_drewN | apply Kd.R_drew)); exact HO219.out))) (below_size (by repeat (first | (with_reducible first | exact HB.out | apply below_alloc | apply pw_below_drewN | apply below_drew1) | exact HB.out)))); have n5_ := Aside0.mk (below_step (by repeat (first | (with_reducible first | exact HB.out | apply below_alloc | apply pw_below_drewN | apply below_drew1) | exact HB.out)) hb); clear HO207; clear HO211; clear HO215; clear HO219; clear HB; have HO207 := n0_; have HO211 := n1_; have HO215 := n2_; have HO219 := n3_; have HO224 := n4_; have HB := n5_; clear n0_ n1_ n2_ n3_ n4_ n5_; (try clear hb); (try clear hb2); (try clear hk); (try clear hi); (try clear ho0)))
      (try simp only [Act.put, List.setIfInBounds_toArray, List.set_cons_zero, List.set_cons_succ])
      go_cut [78] (fun v78 wc => ∃ (kq : Nat) (x78_12 : Bool), v78 = .bool x78_12 ∧ Aside0 (airchecklaw15_TimelinePut.j0 kq a3 t209 (wrap64 (1 + t212)) t213 t217 x78_12 = some r) ∧ Aside0 (kq ≤ k) ∧ Aside0 (Kd.R k25 25 wc w.heap.size (fun k_ => some k_ ≠ ((.slice (some ad216) t213.length co20) : Value).ownBlock ∧ some k_ ≠ ((.slice Ao23 t217.length co23) : Value).ownBlock) (.slice Ao21 t209.length co21) t209) ∧ Aside0 (Kd.R k25 25 wc w.heap.size (fun k_ => some k_ ≠ ((.slice Ao21 t209.length co21) : Value).ownBlock ∧ some k_ ≠ ((.slice Ao23 t217.length co23) : Value).ownBlock) (.slice (some ad216) t213.length co20) t213) ∧ Aside0 (Kd.R k25 25 wc w.heap.size (fun k_ => some k_ ≠ ((.slice Ao21 t209.length co21) : Value).ownBlock ∧ some k_ ≠ ((.slice (some ad216) t213.length co20) : Value).ownBlock) (.slice Ao23 t217.length co23) t217) ∧ Aside0 (Below w.heap.size w wc))
      case first =>
        have H := HC13.out
        clear HC13
        by_cases c25 : t220 = 0
        · rw [if_pos c25] at H
          have c25b0 : (t220 == 0) = true := beq_iff_eq.mpr c25
          have c25b1 : (t220 != 0) = false := bne_eq_false_iff_eq.mpr c25
          clear c25
          (first | rw [c25b0] | (simp only [i64_w, i32_w]; rw [c25b0]) | skip)
          by_cases c26 : t225 = 0
          · rw [if_pos c26] at H
            have c26b0 : (t225 == 0) = true := beq_iff_eq.mpr c26
            have c26b1 : (t225 != 0) = false := bne_eq_false_iff_eq.mpr c26
            clear c26
            replace H := Option.bind_eq_some_iff.mp H
            obtain ⟨t226, A270, H⟩ := H
            replace H : (if t226 = true then ((timeline_End.f k t217).bind fun t227 => (airchecklaw15_TimelinePut.j0 k a3 t209 (wrap64 (1 + t212)) t213 t217 (t227 != (wrap64 (1 + t212))))) else (airchecklaw15_TimelinePut.j0 k a3 t209 (wrap64 (1 + t212)) t213 t217 true)) = some r := H
            have A27 := Aside0.mk A270
            clear A270
            by_cases c28 : t226 = true
            · subst c28
              have H1 : ((timeline_End.f k t217).bind fun t227 => (airchecklaw15_TimelinePut.j0 k a3 t209 (wrap64 (1 + t212)) t213 t217 (t227 != (wrap64 (1 + t212))))) = some r := by rw [if_pos rfl] at H; exact H
              clear H
              have H := H1
              clear H1
              replace H := Option.bind_eq_some_iff.mp H
              obtain ⟨t227, A290, H⟩ := H
              replace H : (airchecklaw15_TimelinePut.j0 k a3 t209 (wrap64 (1 + t212)) t213 t217 (t227 != (wrap64 (1 + t212)))) = some r := H
              have A29 := Aside0.mk A290
              clear A290
              have H' := Aside0.mk H
              clear H
              obtain ⟨Ao30, co30, eo30⟩ := Kd.R_slice HO224.out
              subst eo30
              go_wp2_with (first | (go_at_call 24; (with_reducible refine (aircheckref15_Same.calls k _ _ t217 _ _ t222 true _ ?side1 ?side2 ?side3 ?side4 A27.out).mono ?_); (case side1 => repeat (first | exact (Kd.R_reads' HO219.out).2.2 | (with_reducible refine Kd.C_alloc ?_ _) | (with_reducible refine Kd.C_drewN ?_ _) | (with_reducible refine Kd.C_drew ?_))); (case side2 => exact (Kd.R_reads' HO219.out).2.1); (case side3 => repeat (first | exact (Kd.R_reads' HO224.out).2.2 | (with_reducible refine Kd.C_alloc ?_ _) | (with_reducible refine Kd.C_drewN ?_ _) | (with_reducible refine Kd.C_drew ?_))); (case side4 => exact (Kd.R_reads' HO224.out).2.1); rintro e w' ⟨rfl, ⟨nd, rfl⟩⟩) | (go_at_call 18; (with_reducible refine (timeline_End.calls k _ _ t217 t227 _ ?side1 ?side2 A29.out).mono ?_); (case side1 => repeat (first | exact (Kd.R_reads' HO219.out).2.2 | (with_reducible refine Kd.C_alloc ?_ _) | (with_reducible refine Kd.C_drewN ?_ _) | (with_reducible refine Kd.C_drew ?_))); (case side2 => exact (Kd.R_reads' HO219.out).2.1); rintro e w31 ⟨rfl, hb⟩; have n0_ := Aside0.mk (Kd.R_below (by (with_reducible repeat (first | apply Kd.R_alloc | apply Kd.R_drewN | apply Kd.R_drew)); exact HO207.out) hb); have n1_ := Aside0.mk (Kd.R_below (by (with_reducible repeat (first | apply Kd.R_alloc | apply Kd.R_drewN | apply Kd.R_drew)); exact HO211.out) hb); have n2_ := Aside0.mk (Kd.R_below (by (with_reducible repeat (first | apply Kd.R_alloc | apply Kd.R_drewN | apply Kd.R_drew)); exact HO215.out) hb); have n3_ := Aside0.mk (Kd.R_below (by (with_reducible repeat (first | apply Kd.R_alloc | apply Kd.R_drewN | apply Kd.R_drew)); exact HO219.out) hb); have n4_ := Aside0.mk (Kd.R_below (by (with_reducible repeat (first | apply Kd.R_alloc | apply Kd.R_drewN | apply Kd.R_drew)); exact HO224.out) hb); have n5_ := Aside0.mk (below_step (by repeat (first | (with_reducible first | exact HB.out | apply below_alloc | apply pw_below_drewN | apply below_drew1) | exact HB.out)) hb); clear HO207; clear HO211; clear HO215; clear HO219; clear HO224; clear HB; have HO207 := n0_; have HO211 := n1_; have HO215 := n2_; have HO219 := n3_; have HO224 := n4_; have HB := n5_; clear n0_ n1_ n2_ n3_ n4_ n5_; (try clear hb); (try clear hb2); (try clear hk); (try clear hi)))
              go_meet
              case rel => exact ⟨_, ((t227 != (wrap64 (1 + t212)))), (by first | rfl | (simp; done) | (simp [*]; done)), H', ⟨by first | omega | exact Nat.le_refl _⟩, ⟨by (with_reducible repeat (first | apply Kd.R_alloc | apply Kd.R_drewN | apply Kd.R_drew)); exact Kd.R_mono HO211.out (fun _ hk => ⟨hk.1.1.2, hk.1.2⟩)⟩, ⟨by (with_reducible repeat (first | apply Kd.R_alloc | apply Kd.R_drewN | apply Kd.R_drew)); exact Kd.R_mono HO215.out (fun _ hk => ⟨hk.1.1.2, hk.1.2⟩)⟩, ⟨by (with_reducible repeat (first | apply Kd.R_alloc | apply Kd.R_drewN | apply Kd.R_drew)); exact Kd.R_mono HO219.out (fun _ hk => ⟨hk.1.1.2, hk.1.2⟩)⟩, ⟨by repeat (first | (with_reducible first | exact HB.out | apply below_alloc | apply pw_below_drewN | apply below_drew1) | exact HB.out)⟩⟩
            · replace c28 := Bool.eq_false_iff.mpr c28
              subst c28
              have H1 : (airchecklaw15_TimelinePut.j0 k a3 t209 (wrap64 (1 + t212)) t213 t217 true) = some r := by rw [if_neg (show ¬ (false = true) by decide)] at H; exact H
              clear H
              have H := H1
              clear H1
              exact absurd H (by rw [hr0.out]; unfold airchecklaw15_TimelinePut.j0; split <;> simp)
          · rw [if_neg c26] at H
            have c26b0 : (t225 == 0) = false := beq_eq_false_iff_ne.mpr c26
            have c26b1 : (t225 != 0) = true := bne_iff_ne.mpr c26
            exact absurd H (by rw [hr0.out]; unfold airchecklaw15_TimelinePut.j0; split <;> simp)
        · rw [if_neg c25] at H
          have c25b0 : (t220 == 0) = false := beq_eq_false_iff_ne.mpr c25
          have c25b1 : (t220 != 0) = true := bne_iff_ne.mpr c25
          (first | rw [c25b0] | (simp only [i64_w, i32_w]; rw [c25b0]) | skip)
          exact absurd H (by rw [hr0.out]; unfold airchecklaw15_TimelinePut.j0; split <;> simp)
      case rest => as_aux_lemma =>
        clear HC13
        try clear c1
        try clear c2
        try clear p2
        try clear q2
        try clear hx2
        try clear qi2
        try clear c3
        try clear c5
        try clear c6
        try clear p6
        try clear c10
        try clear c10b0
        try clear c10b1
        try clear c11
        try clear c12
        try clear c13
        try clear p21
        try clear q21
        try clear hx21
        try clear qi21
        try clear p22
        try clear q22
        try clear hx22
        try clear qi22
        try clear c25
        try clear c25b0
        try clear c25b1
        try clear c26
        try clear c26b0
        try clear c26b1
        try clear c28
        try clear hx216_0
        try clear hx216_1
        try clear hx216_2
        try clear hx221_0
        try clear hx221_1
        try clear hx221_2
        try clear p216
        try clear p221
        try clear q216
        try clear q221
        obtain ⟨kq, x78_12, rfl, HA, HJ12, HO_9, HO_11, HO_12, HB⟩ := hcut
        cases kq with
        | zero => exact absurd HA.out (by simp [airchecklaw15_TimelinePut.j0])
        | succ kj12 =>
          have H := HA.out
          clear HA
          simp only [airchecklaw15_TimelinePut.j0] at H
          by_cases c33 : x78_12 = true
          · subst c33
            have H1 : (some false) = some r := by rw [if_pos rfl] at H; exact H
            exact absurd (Option.some.inj H1) (by rw [hr0.out]; exact Bool.false_ne_true)
          · replace c33 := Bool.eq_false_iff.mpr c33
            subst c33
            have H1 : ((airchecklaw15_pick.f a3 (wrap64 (1 + t212))).bind fun t228 => ((timeline_At.f t209 t228).bind fun bt229 => ((timeline_At.f t217 t228).bind fun bt231 => (if 0 < (t213.length : Int) then (if ((rd_T25 t213 0).f0) ≤ t228 then (airchecklaw15_TimelinePut.j1 kj12 t209 t213 t217 bt229.2 bt231.1 bt231.2 bt229.1 (decide (t228 < ((rd_T25 t213 0).f1)))) else (airchecklaw15_TimelinePut.j1 kj12 t209 t213 t217 bt229.2 bt231.1 bt231.2 bt229.1 false)) else (none))))) = some r := by rw [if_neg (show ¬ (false = true) by decide)] at H; exact H
            clear H
            have H := H1
            clear H1
            replace H := Option.bind_eq_some_iff.mp H
            obtain ⟨t228, A340, H⟩ := H
            replace H : ((timeline_At.f t209 t228).bind fun bt229 => ((timeline_At.f t217 t228).bind fun bt231 => (if 0 < (t213.length : Int) then (if ((rd_T25 t213 0).f0) ≤ t228 then (airchecklaw15_TimelinePut.j1 kj12 t209 t213 t217 bt229.2 bt231.1 bt231.2 bt229.1 (decide (t228 < ((rd_T25 t213 0).f1)))) else (airchecklaw15_TimelinePut.j1 kj12 t209 t213 t217 bt229.2 bt231.1 bt231.2 bt229.1 false)) else (none)))) = some r := H
            have A34 := Aside0.mk A340
            clear A340
            replace H := Option.bind_eq_some_iff.mp H
            obtain ⟨⟨t229, t230⟩, A350, H⟩ := H
            replace H : ((timeline_At.f t217 t228).bind fun bt231 => (if 0 < (t213.length : Int) then (if ((rd_T25 t213 0).f0) ≤ t228 then (airchecklaw15_TimelinePut.j1 kj12 t209 t213 t217 t230 bt231.1 bt231.2 t229 (decide (t228 < ((rd_T25 t213 0).f1)))) else (airchecklaw15_TimelinePut.j1 kj12 t209 t213 t217 t230 bt231.1 bt231.2 t229 false)) else (none))) = some r := H
            have A35 := Aside0.mk A350
            clear A350
            replace H := Option.bind_eq_some_iff.mp H
            obtain ⟨⟨t231, t232⟩, A360, H⟩ := H
            replace H : (if 0 < (t213.length : Int) then (if ((rd_T25 t213 0).f0) ≤ t228 then (airchecklaw15_TimelinePut.j1 kj12 t209 t213 t217 t230 t231 t232 t229 (decide (t228 < ((rd_T25 t213 0).f1)))) else (airchecklaw15_TimelinePut.j1 kj12 t209 t213 t217 t230 t231 t232 t229 false)) else (none)) = some r := H
            have A36 := Aside0.mk A360
            clear A360
            have HC37 := Aside0.mk H
            clear H
            go_upto_region 14 with (first | ((with_reducible refine gate_callee (f := 13) rfl ?_); refine goesL_ (some 81) rfl rfl Try.func13 (by kernel_rfl) rfl #[.int .i64 a3, .int .i64 (wrap64 (1 + t212))] rfl (by (try simp only [List.map_toArray, List.map_cons, List.map_nil]); first | done | rfl | (simp only [List.length_drop, List.length_take]; rfl)) ?_; (with_reducible refine (airchecklaw15_pick.calls a3 (wrap64 (1 + t212)) t228 _ A34.out).mono ?_); rintro e w' ⟨rfl, ⟨nd, rfl⟩⟩; refine ⟨_, rfl, ?_⟩) | ((with_reducible refine gate_callee (f := 20) rfl ?_); refine goesL_ (some 85) rfl rfl Try.func20 (by kernel_rfl) rfl #[.slice Ao21 t209.length co21, .int .i64 t228] rfl (by (try simp only [List.map_toArray, List.map_cons, List.map_nil]); first | done | rfl | (simp only [List.length_drop, List.length_take]; rfl)) ?_; (with_reducible refine (timeline_At.calls _ _ t209 t228 t229 t230 _ ?side1 ?side2 A35.out).mono ?_); (case side1 => repeat (first | exact (Kd.R_reads' HO_9.out).2.2 | (with_reducible refine Kd.C_alloc ?_ _) | (with_reducible refine Kd.C_drewN ?_ _) | (with_reducible refine Kd.C_drew ?_))); (case side2 => exact (Kd.R_reads' HO_9.out).2.1); rintro e w38 ⟨rfl, hb⟩; refine ⟨_, rfl, ?_⟩; have n0_ := Aside0.mk (Kd.R_below (by (with_reducible repeat (first | apply Kd.R_alloc | apply Kd.R_drewN | apply Kd.R_drew)); exact HO_9.out) hb); have n1_ := Aside0.mk (Kd.R_below (by (with_reducible repeat (first | apply Kd.R_alloc | apply Kd.R_drewN | apply Kd.R_drew)); exact HO_11.out) hb); have n2_ := Aside0.mk (Kd.R_below (by (with_reducible repeat (first | apply Kd.R_alloc | apply Kd.R_drewN | apply Kd.R_drew)); exact HO_12.out) hb); have n3_ := Aside0.mk (below_step (by repeat (first | (with_reducible first | exact HB.out | apply below_alloc | apply pw_below_drewN | apply below_drew1) | exact HB.out)) hb); clear HO_9; clear HO_11; clear HO_12; clear HB; have HO_9 := n0_; have HO_11 := n1_; have HO_12 := n2_; have HB := n3_; clear n0_ n1_ n2_ n3_; (try clear hb); (try clear hb2); (try clear hk); (try clear hi)) | ((with_reducible refine gate_callee (f := 20) rfl ?_); refine goesL_ (some 91) rfl rfl Try.func20 (by kernel_rfl) rfl #[.slice Ao23 t217.length co23, .int .i64 t228] rfl (by (try simp only [List.map_toArray, List.map_cons, List.map_nil]); first | done | rfl | (simp only [List.length_drop, List.length_take]; rfl)) ?_; (with_reducible refine (timeline_At.calls _ _ t217 t228 t231 t232 _ ?side1 ?side2 A36.out).mono ?_); (case side1 => repeat (first | exact (Kd.R_reads' HO_12.out).2.2 | (with_reducible refine Kd.C_alloc ?_ _) | (with_reducible refine Kd.C_drewN ?_ _) | (with_reducible refine Kd.C_drew ?_))); (case side2 => exact (Kd.R_reads' HO_12.out).2.1); rintro e w39 ⟨rfl, hb⟩; refine ⟨_, rfl, ?_⟩; have n0_ := Aside0.mk (Kd.R_below (by (with_reducible repeat (first | apply Kd.R_alloc | apply Kd.R_drewN | apply Kd.R_drew)); exact HO_9.out) hb); have n1_ := Aside0.mk (Kd.R_below (by (with_reducible repeat (first | apply Kd.R_alloc | apply Kd.R_drewN | apply Kd.R_drew)); exact HO_11.out) hb); have n2_ := Aside0.mk (Kd.R_below (by (with_reducible repeat (first | apply Kd.R_alloc | apply Kd.R_drewN | apply Kd.R_drew)); exact HO_12.out) hb); have n3_ := Aside0.mk (below_step (by repeat (first | (with_reducible first | exact HB.out | apply below_alloc | apply pw_below_drewN | apply below_drew1) | exact HB.out)) hb); clear HO_9; clear HO_11; clear HO_12; clear HB; have HO_9 := n0_; have HO_11 := n1_; have HO_12 := n2_; have HB := n3_; clear n0_ n1_ n2_ n3_; (try clear hb); (try clear hb2); (try clear hk); (try clear hi)))
            (try simp only [Act.put, List.setIfInBounds_toArray, List.set_cons_zero, List.set_cons_succ])
            go_cut [108] (fun v108 wc => ∃ (kq : Nat) (x108_36 : Bool), v108 = .bool x108_36 ∧ Aside0 (airchecklaw15_TimelinePut.j1 kq t209 t213 t217 t230 t231 t232 t229 x108_36 = some r) ∧ Aside0 (kq ≤ kj12) ∧ Aside0 (Kd.R k25 25 wc w.heap.size (fun k_ => some k_ ≠ ((.slice (some ad216) t213.length co20) : Value).ownBlock ∧ some k_ ≠ ((.slice Ao23 t217.length co23) : Value).ownBlock) (.slice Ao21 t209.length co21) t209) ∧ Aside0 (Kd.R k25 25 wc w.heap.size (fun k_ => some k_ ≠ ((.slice Ao21 t209.length co21) : Value).ownBlock ∧ some k_ ≠ ((.slice Ao23 t217.length co23) : Value).ownBlock) (.slice (some ad216) t213.length co20) t213) ∧ Aside0 (Kd.R k25 25 wc w.heap.size (fun k_ => some k_ ≠ ((.slice Ao21 t209.length co21) : Value).ownBlock ∧ some k_ ≠ ((.slice (some ad216) t213.length co20) : Value).ownBlock) (.slice Ao23 t217.length co23) t217) ∧ Aside0 (Below w.heap.size w wc))
            case first =>
              have H := HC37.out
              clear HC37
              by_cases c40 : 0 < (t213.length : Int)
              · rw [if_pos c40] at H
                have c40b0 : decide (0 < (t213.length : Int)) = true := decide_eq_true c40
                have c40b1 : decide (0 < t213.length) = true := decide_eq_true (by omega)
                clear c40
                (first | rw [c40b0] | (simp only [i64_w, i32_w]; rw [c40b0]) | skip)
                by_cases c41 : ((rd_T25 t213 0).f0) ≤ t228
                · rw [if_pos c41] at H
                  have c41b0 : decide (((rd_T25 t213 0).f0) ≤ t228) = true := decide_eq_true c41
                  clear c41
                  have H' := Aside0.mk H
                  clear H
                  have p233 : 0 ≤ (0 : Int) := (by omega)
                  have q233 : 0 < (t213.length : Int) := of_decide_eq_true (by first | (with_reducible assumption) | assumption)
                  obtain ⟨ad233, e233, hx233_0, hx233_1, hx233_2⟩ := at_T25 (Kd.R_reads' HO_11.out).2.2 0 p233 q233
                  obtain rfl : ad216 = ad233 := (by injection e233)
                  have qi233 : (0 < t213.length) = True := eq_true (by omega)
                  (try rw [show ((0 : Int)).toNat = 0 from rfl] at hx233_0)
                  (try rw [show 0 * 3 = 0 from rfl] at hx233_0)
                  (try rw [Addr.add_zero'] at hx233_0)
                  (try rw [show ((0 : Int)).toNat = 0 from rfl] at hx233_1)
                  (try rw [show 0 * 3 = 0 from rfl] at hx233_1)
                  (try rw [Addr.add_zero'] at hx233_1)
                  (try rw [show ((0 : Int)).toNat = 0 from rfl] at hx233_2)
                  (try rw [show 0 * 3 = 0 from rfl] at hx233_2)
                  (try rw [Addr.add_zero'] at hx233_2)
                  replace p233 := eq_true p233
                  replace q233 := eq_true q233
                  have p234 : 0 ≤ (0 : Int) := (by omega)
                  have q234 : 0 < (t213.length : Int) := of_decide_eq_true (by first | (with_reducible assumption) | assumption)
                  obtain ⟨ad234, e234, hx234_0, hx234_1, hx234_2⟩ := at_T25 (Kd.R_reads' HO_11.out).2.2 0 p234 q234
                  obtain rfl : ad216 = ad234 := (by injection e234)
                  have qi234 : (0 < t213.length) = True := eq_true (by omega)
                  (try rw [show ((0 : Int)).toNat = 0 from rfl] at hx234_0)
                  (try rw [show 0 * 3 = 0 from rfl] at hx234_0)
                  (try rw [Addr.add_zero'] at hx234_0)
                  (try rw [show ((0 : Int)).toNat = 0 from rfl] at hx234_1)
                  (try rw [show 0 * 3 = 0 from rfl] at hx234_1)
                  (try rw [Addr.add_zero'] at hx234_1)
                  (try rw [show ((0 : Int)).toNat = 0 from rfl] at hx234_2)
                  (try rw [show 0 * 3 = 0 from rfl] at hx234_2)
                  (try rw [Addr.add_zero'] at hx234_2)
                  replace p234 := eq_true p234
                  replace q234 := eq_true q234
                  go_wp2
                  go_meet
                  case rel => exact ⟨_, (decide (t228 < ((rd_T25 t213 0).f1))), (by first | rfl | (simp; done) | (simp [*]; done)), H', ⟨by have := HJ12.out; first | omega | exact Nat.le_refl _⟩, ⟨by (with_reducible repeat (first | apply Kd.R_alloc | apply Kd.R_drewN | apply Kd.R_drew)); exact HO_9.out⟩, ⟨by (with_reducible repeat (first | apply Kd.R_alloc | apply Kd.R_drewN | apply Kd.R_drew)); exact HO_11.out⟩, ⟨by (with_reducible repeat (first | apply Kd.R_alloc | apply Kd.R_drewN | apply Kd.R_drew)); exact HO_12.out⟩, ⟨by repeat (first | (with_reducible first | exact HB.out | apply below_alloc | apply pw_below_drewN | apply below_drew1) | exact HB.out)⟩⟩
                · rw [if_neg c41] at H
                  have c41b0 : decide (((rd_T25 t213 0).f0) ≤ t228) = false := decide_eq_false c41
                  clear c41
                  have H' := Aside0.mk H
                  clear H
                  have p233 : 0 ≤ (0 : Int) := (by omega)
                  have q233 : 0 < (t213.length : Int) := of_decide_eq_true (by first | (with_reducible assumption) | assumption)
                  obtain ⟨ad233, e233, hx233_0, hx233_1, hx233_2⟩ := at_T25 (Kd.R_reads' HO_11.out).2.2 0 p233 q233
                  obtain rfl : ad216 = ad233 := (by injection e233)
                  have qi233 : (0 < t213.length) = True := eq_true (by omega)
                  (try rw [show ((0 : Int)).toNat = 0 from rfl] at hx233_0)
                  (try rw [show 0 * 3 = 0 from rfl] at hx233_0)
                  (try rw [Addr.add_zero'] at hx233_0)
                  (try rw [show ((0 : Int)).toNat = 0 from rfl] at hx233_1)
                  (try rw [show 0 * 3 = 0 from rfl] at hx233_1)
                  (try rw [Addr.add_zero'] at hx233_1)
                  (try rw [show ((0 : Int)).toNat = 0 from rfl] at hx233_2)
                  (try rw [show 0 * 3 = 0 from rfl] at hx233_2)
                  (try rw [Addr.add_zero'] at hx233_2)
                  replace p233 := eq_true p233
                  replace q233 := eq_true q233
                  go_wp2
                  go_meet
                  case rel => exact ⟨_, (false), (by first | rfl | (simp; done) | (simp [*]; done)), H', ⟨by have := HJ12.out; first | omega | exact Nat.le_refl _⟩, ⟨by (with_reducible repeat (first | apply Kd.R_alloc | apply Kd.R_drewN | apply Kd.R_drew)); exact HO_9.out⟩, ⟨by (with_reducible repeat (first | apply Kd.R_alloc | apply Kd.R_drewN | apply Kd.R_drew)); exact HO_11.out⟩, ⟨by (with_reducible repeat (first | apply Kd.R_alloc | apply Kd.R_drewN | apply Kd.R_drew)); exact HO_12.out⟩, ⟨by repeat (first | (with_reducible first | exact HB.out | apply below_alloc | apply pw_below_drewN | apply below_drew1) | exact HB.out)⟩⟩
              · rw [if_neg c40] at H
                exact absurd H (by simp)
            case rest => as_aux_lemma =>
              clear HC37
              try clear c1
              try clear c2
              try clear p2
              try clear q2
              try clear hx2
              try clear qi2
              try clear c3
              try clear c4
              try clear c5
              try clear c6
              try clear p6
              try clear c10
              try clear c10b0
              try clear c10b1
              try clear c11
              try clear c12
              try clear c13
              try clear c20
              try clear p21
              try clear q21
              try clear hx21
              try clear qi21
              try clear p22
              try clear q22
              try clear hx22
              try clear qi22
              try clear p23
              try clear q23
              try clear hx23
              try clear qi23
              try clear c25
              try clear c25b0
              try clear c25b1
              try clear c26
              try clear c26b0
              try clear c26b1
              try clear c28
              try clear c33
              try clear c40
              try clear c40b0
              try clear c40b1
              try clear c41
              try clear c41b0
              try clear hx216_0
              try clear hx216_1
              try clear hx216_2
              try clear hx221_0
              try clear hx221_1
              try clear hx221_2
              try clear hx233_0
              try clear hx233_1
              try clear hx233_2
              try clear hx234_0
              try clear hx234_1
              try clear hx234_2
              try clear p2
              try clear p21
              try clear p216
              try clear p22
              try clear p221
              try clear p233
              try clear p234
              try clear p6
              try clear q2
              try clear q21
              try clear q216
              try clear q22
              try clear q221
              try clear q233
              try clear q234
              obtain ⟨kq, x108_36, rfl, HA, HJ36, HO_9, HO_11, HO_12, HB⟩ := hcut
              cases kq with
              | zero => exact absurd HA.out (by simp [airchecklaw15_TimelinePut.j1])
              | succ kj36 =>
                have H := HA.out
                clear HA
                simp only [airchecklaw15_TimelinePut.j1] at H
                have HC42 := Aside0.mk H
                clear H
                go_upto_if 108 with (fail)
                go_cut [21] (fun v21 wc => ∃ (kq : Nat) (x21_41 : Int), v21 = .int .i64 x21_41 ∧ Aside0 (airchecklaw15_TimelinePut.j2 kq t209 t213 t217 t230 t231 t232 x21_41 = some r) ∧ Aside0 (kq ≤ kj36) ∧ Aside0 (Kd.R k25 25 wc w.heap.size (fun k_ => some k_ ≠ ((.slice (some ad216) t213.length co20) : Value).ownBlock ∧ some k_ ≠ ((.slice Ao23 t217.length co23) : Value).ownBlock) (.slice Ao21 t209.length co21) t209) ∧ Aside0 (Kd.R k25 25 wc w.heap.size (fun k_ => some k_ ≠ ((.slice Ao21 t209.length co21) : Value).ownBlock ∧ some k_ ≠ ((.slice Ao23 t217.length co23) : Value).ownBlock) (.slice (some ad216) t213.length co20) t213) ∧ Aside0 (Kd.R k25 25 wc w.heap.size (fun k_ => some k_ ≠ ((.slice Ao21 t209.length co21) : Value).ownBlock ∧ some k_ ≠ ((.slice (some ad216) t213.length co20) : Value).ownBlock) (.slice Ao23 t217.length co23) t217) ∧ Aside0 (Below w.heap.size w wc))
                case first =>
                  have H := HC42.out
                  clear HC42
                  by_cases c43 : x108_36 = true
                  · subst c43
                    have H1 : (if 0 < (t213.length : Int) then (airchecklaw15_TimelinePut.j2 kj36 t209 t213 t217 t230 t231 t232 ((rd_T25 t213 0).f2)) else (none)) = some r := by rw [if_pos rfl] at H; exact H
                    clear H
                    have H := H1
                    clear H1
                    by_cases c44 : 0 < (t213.length : Int)
                    · rw [if_pos c44] at H
                      have c44b0 : decide (0 < (t213.length : Int)) = true := decide_eq_true c44
                      have c44b1 : decide (0 < t213.length) = true := decide_eq_true (by omega)
                      clear c44
                      (first | rw [c44b0] | (simp only [i64_w, i32_w]; rw [c44b0]) | skip)
                      have H' := Aside0.mk H
                      clear H
                      have p235 : 0 ≤ (0 : Int) := (by omega)
                      have q235 : 0 < (t213.length : Int) := of_decide_eq_true (by first | (with_reducible assumption) | assumption)
                      obtain ⟨ad235, e235, hx235_0, hx235_1, hx235_2⟩ := at_T25 (Kd.R_reads' HO_11.out).2.2 0 p235 q235
                      obtain rfl : ad216 = ad235 := (by injection e235)
                      have qi235 : (0 < t213.length) = True := eq_true (by omega)
                      (try rw [show ((0 : Int)).toNat = 0 from rfl] at hx235_0)
                      (try rw [show 0 * 3 = 0 from rfl] at hx235_0)
                      (try rw [Addr.add_zero'] at hx235_0)
                      (try rw [show ((0 : Int)).toNat = 0 from rfl] at hx235_1)
                      (try rw [show 0 * 3 = 0 from rfl] at hx235_1)
                      (try rw [Addr.add_zero'] at hx235_1)
                      (try rw [show ((0 : Int)).toNat = 0 from rfl] at hx235_2)
                      (try rw [show 0 * 3 = 0 from rfl] at hx235_2)
                      (try rw [Addr.add_zero'] at hx235_2)
                      replace p235 := eq_true p235
                      replace q235 := eq_true q235
                      go_wp2
                      go_meet
                      case rel => exact ⟨_, ((rd_T25 t213 0).f2), (by first | rfl | (simp; done) | (simp [*]; done)), H', ⟨by have := HJ12.out; have := HJ36.out; first | omega | exact Nat.le_refl _⟩, ⟨by (with_reducible repeat (first | apply Kd.R_alloc | apply Kd.R_drewN | apply Kd.R_drew)); exact HO_9.out⟩, ⟨by (with_reducible repeat (first | apply Kd.R_alloc | apply Kd.R_drewN | apply Kd.R_drew)); exact HO_11.out⟩, ⟨by (with_reducible repeat (first | apply Kd.R_alloc | apply Kd.R_drewN | apply Kd.R_drew)); exact HO_12.out⟩, ⟨by repeat (first | (with_reducible first | exact HB.out | apply below_alloc | apply pw_below_drewN | apply below_drew1) | exact HB.out)⟩⟩
                    · rw [if_neg c44] at H
                      exact absurd H (by simp)
                  · replace c43 := Bool.eq_false_iff.mpr c43
                    subst c43
                    have H1 : (airchecklaw15_TimelinePut.j2 kj36 t209 t213 t217 t230 t231 t232 t229) = some r := by rw [if_neg (show ¬ (false = true) by decide)] at H; exact H
                    clear H
                    have H := H1
                    clear H1
                    have H' := Aside0.mk H
                    clear H
                    go_wp2
                    go_meet
                    case rel => exact ⟨_, (t229), (by first | rfl | (simp; done) | (simp [*]; done)), H', ⟨by have := HJ12.out; have := HJ36.out; first | omega | exact Nat.le_refl _⟩, ⟨by (with_reducible repeat (first | apply Kd.R_alloc | apply Kd.R_drewN | apply Kd.R_drew)); exact HO_9.out⟩, ⟨by (with_reducible repeat (first | apply Kd.R_alloc | apply Kd.R_drewN | apply Kd.R_drew)); exact HO_11.out⟩, ⟨by (with_reducible repeat (first | apply Kd.R_alloc | apply Kd.R_drewN | apply Kd.R_drew)); exact HO_12.out⟩, ⟨by repeat (first | (with_reducible first | exact HB.out | apply below_alloc | apply pw_below_drewN | apply below_drew1) | exact HB.out)⟩⟩
                case rest => as_aux_lemma =>
                  clear HC42
                  try clear c1
                  try clear c2
                  try clear p2
                  try clear q2
                  try clear hx2
                  try clear qi2
                  try clear c3
                  try clear c4
                  try clear c5
                  try clear c6
                  try clear p6
                  try clear c10
                  try clear c10b0
                  try clear c10b1
                  try clear c11
                  try clear c12
                  try clear c13
                  try clear c20
                  try clear p21
                  try clear q21
                  try clear hx21
                  try clear qi21
                  try clear p22
                  try clear q22
                  try clear hx22
                  try clear qi22
                  try clear p23
                  try clear q23
                  try clear hx23
                  try clear qi23
                  try clear c25
                  try clear c25b0
                  try clear c25b1
                  try clear c26
                  try clear c26b0
                  try clear c26b1
                  try clear c28
                  try clear c33
                  try clear c40
                  try clear c40b0
                  try clear c40b1
                  try clear c41
                  try clear c41b0
                  try clear c43
                  try clear c44
                  try clear c44b0
                  try clear c44b1
                  try clear hx216_0
                  try clear hx216_1
                  try clear hx216_2
                  try clear hx221_0
                  try clear hx221_1
                  try clear hx221_2
                  try clear hx233_0
                  try clear hx233_1
                  try clear hx233_2
                  try clear hx234_0
                  try clear hx234_1
                  try clear hx234_2
                  try clear hx235_0
                  try clear hx235_1
                  try clear hx235_2
                  try clear p2
                  try clear p21
                  try clear p216
                  try clear p22
                  try clear p221
                  try clear p23
                  try clear p233
                  try clear p234
                  try clear p235
                  try clear p6
                  try clear q2
                  try clear q21
                  try clear q216
                  try clear q22
                  try clear q221
                  try clear q23
                  try clear q233
                  try clear q234
                  try clear q235
                  obtain ⟨kq, x21_41, rfl, HA, HJ41, HO_9, HO_11, HO_12, HB⟩ := hcut
                  cases kq with
                  | zero => exact absurd HA.out (by simp [airchecklaw15_TimelinePut.j2])
                  | succ kj41 =>
                    have H := HA.out
                    clear HA
                    simp only [airchecklaw15_TimelinePut.j2] at H
                    have HC45 := Aside0.mk H
                    clear H
                    go_upto_region 16 with (fail)
                    go_cut [123] (fun v123 wc => ∃ (kq : Nat) (x123_44 : Bool), v123 = .bool x123_44 ∧ Aside0 (airchecklaw15_TimelinePut.j3 kq t209 t213 t217 x123_44 = some r) ∧ Aside0 (kq ≤ kj41) ∧ Aside0 (Kd.R k25 25 wc w.heap.size (fun k_ => some k_ ≠ ((.slice (some ad216) t213.length co20) : Value).ownBlock ∧ some k_ ≠ ((.slice Ao23 t217.length co23) : Value).ownBlock) (.slice Ao21 t209.length co21) t209) ∧ Aside0 (Kd.R k25 25 wc w.heap.size (fun k_ => some k_ ≠ ((.slice Ao21 t209.length co21) : Value).ownBlock ∧ some k_ ≠ ((.slice Ao23 t217.length co23) : Value).ownBlock) (.slice (some ad216) t213.length co20) t213) ∧ Aside0 (Kd.R k25 25 wc w.heap.size (fun k_ => some k_ ≠ ((.slice Ao21 t209.length co21) : Value).ownBlock ∧ some k_ ≠ ((.slice (some ad216) t213.length co20) : Value).ownBlock) (.slice Ao23 t217.length co23) t217) ∧ Aside0 (Below w.heap.size w wc))
                    case first =>
                      have H := HC45.out
                      clear HC45
                      by_cases c46 : t230 = 0
                      · rw [if_pos c46] at H
                        have c46b0 : (t230 == 0) = true := beq_iff_eq.mpr c46
                        have c46b1 : (t230 != 0) = false := bne_eq_false_iff_eq.mpr c46
                        clear c46
                        (first | rw [c46b0] | (simp only [i64_w, i32_w]; rw [c46b0]) | skip)
                        by_cases c47 : t232 = 0
                        · rw [if_pos c47] at H
                          have c47b0 : (t232 == 0) = true := beq_iff_eq.mpr c47
                          have c47b1 : (t232 != 0) = false := bne_eq_false_iff_eq.mpr c47
                          clear c47
                          have H' := Aside0.mk H
                          clear H
                          go_wp2
                          go_meet
                          case rel => exact ⟨_, ((t231 != x21_41)), (by first | rfl | (simp; done) | (simp [*]; done)), H', ⟨by have := HJ12.out; have := HJ36.out; have := HJ41.out; first | omega | exact Nat.le_refl _⟩, ⟨by (with_reducible repeat (first | apply Kd.R_alloc | apply Kd.R_drewN | apply Kd.R_drew)); exact HO_9.out⟩, ⟨by (with_reducible repeat (first | apply Kd.R_alloc | apply Kd.R_drewN | apply Kd.R_drew)); exact HO_11.out⟩, ⟨by (with_reducible repeat (first | apply Kd.R_alloc | apply Kd.R_drewN | apply Kd.R_drew)); exact HO_12.out⟩, ⟨by repeat (first | (with_reducible first | exact HB.out | apply below_alloc | apply pw_below_drewN | apply below_drew1) | exact HB.out)⟩⟩
                        · rw [if_neg c47] at H
                          have c47b0 : (t232 == 0) = false := beq_eq_false_iff_ne.mpr c47
                          have c47b1 : (t232 != 0) = true := bne_iff_ne.mpr c47
                          exact absurd H (by rw [hr0.out]; unfold airchecklaw15_TimelinePut.j3; split <;> simp)
                      · rw [if_neg c46] at H
                        have c46b0 : (t230 == 0) = false := beq_eq_false_iff_ne.mpr c46
                        have c46b1 : (t230 != 0) = true := bne_iff_ne.mpr c46
                        (first | rw [c46b0] | (simp only [i64_w, i32_w]; rw [c46b0]) | skip)
                        exact absurd H (by rw [hr0.out]; unfold airchecklaw15_TimelinePut.j3; split <;> simp)
                    case rest => as_aux_lemma =>
                      clear HC45
                      try clear c1
                      try clear c2
                      try clear p2
                      try clear q2
                      try clear hx2
                      try clear qi2
                      try clear c3
                      try clear c4
                      try clear c5
                      try clear c6
                      try clear p6
                      try clear c10
                      try clear c10b0
                      try clear c10b1
                      try clear c11
                      try clear c12
                      try clear c13
                      try clear c20
                      try clear p21
                      try clear q21
                      try clear hx21
                      try clear qi21
                      try clear p22
                      try clear q22
                      try clear hx22
                      try clear qi22
                      try clear p23
                      try clear q23
                      try clear hx23
                      try clear qi23
                      try clear c25
                      try clear c25b0
                      try clear c25b1
                      try clear c26
                      try clear c26b0
                      try clear c26b1
                      try clear c28
                      try clear c33
                      try clear c40
                      try clear c40b0
                      try clear c40b1
                      try clear c41
                      try clear c41b0
                      try clear c43
                      try clear c44
                      try clear c44b0
                      try clear c44b1
                      try clear c46
                      try clear c46b0
                      try clear c46b1
                      try clear c47
                      try clear c47b0
                      try clear c47b1
                      try clear hx216_0
                      try clear hx216_1
                      try clear hx216_2
                      try clear hx221_0
                      try clear hx221_1
                      try clear hx221_2
                      try clear hx233_0
                      try clear hx233_1
                      try clear hx233_2
                      try clear hx234_0
                      try clear hx234_1
                      try clear hx234_2
                      try clear hx235_0
                      try clear hx235_1
                      try clear hx235_2
                      try clear p2
                      try clear p21
                      try clear p216
                      try clear p22
                      try clear p221
                      try clear p23
                      try clear p233
                      try clear p234
                      try clear p235
                      try clear p6
                      try clear q2
                      try clear q21
                      try clear q216
                      try clear q22
                      try clear q221
                      try clear q23
                      try clear q233
                      try clear q234
                      try clear q235
                      obtain ⟨kq, x123_44, rfl, HA, HJ44, HO_9, HO_11, HO_12, HB⟩ := hcut
                      cases kq with
                      | zero => exact absurd HA.out (by simp [airchecklaw15_TimelinePut.j3])
                      | succ kj44 =>
                        have H := HA.out
                        clear HA
                        simp only [airchecklaw15_TimelinePut.j3] at H
                        by_cases c48 : x123_44 = true
                        · subst c48
                          have H1 : (some false) = some r := by rw [if_pos rfl] at H; exact H
                          exact absurd (Option.some.inj H1) (by rw [hr0.out]; exact Bool.false_ne_true)
                        · replace c48 := Bool.eq_false_iff.mpr c48
                          subst c48
                          have H1 : (if 0 < (t213.length : Int) then ((timeline_Within.f t209 ((rd_T25 t213 0).f0) ((rd_T25 t213 0).f1)).bind fun bt238 => (airchecklaw15_TimelinePut.l0 kj44 t209 t213 t217 bt238.1 bt238.2 t217 0)) else (none)) = some r := by rw [if_neg (show ¬ (false = true) by decide)] at H; exact H
                          clear H
                          have H := H1
                          clear H1
                          by_cases c49 : 0 < (t213.length : Int)
                          · rw [if_pos c49] at H
                            have c49b0 : decide (0 < (t213.length : Int)) = true := decide_eq_true c49
                            have c49b1 : decide (0 < t213.length) = true := decide_eq_true (by omega)
                            clear c49
                            replace H := Option.bind_eq_some_iff.mp H
                            obtain ⟨⟨t238, t241⟩, A500, H⟩ := H
                            replace H : (airchecklaw15_TimelinePut.l0 kj44 t209 t213 t217 t238 t241 t217 0) = some r := H
                            have A50 := Aside0.mk A500
                            clear A500
                            have H' := Aside0.mk H
                            clear H
                            try go_wp2
                            have n0_ := Aside0.mk (Kd.R_drew HO_9.out)
                            have n1_ := Aside0.mk (Kd.R_drew HO_11.out)
                            have n2_ := Aside0.mk (Kd.R_drew HO_12.out)
                            have n3_ := Aside0.mk (below_drew1 HB.out)
                            clear HO_9
                            clear HO_11
                            clear HO_12
                            clear HB
                            have HO_9 := n0_
                            have HO_11 := n1_
                            have HO_12 := n2_
                            have HB := n3_
                            clear n0_ n1_ n2_ n3_
                            have p236 : 0 ≤ (0 : Int) := (by omega)
                            have q236 : 0 < (t213.length : Int) := of_decide_eq_true (by first | (with_reducible assumption) | assumption)
                            obtain ⟨ad236, e236, hx236_0, hx236_1, hx236_2⟩ := at_T25 (Kd.R_reads' HO_11.out).2.2 0 p236 q236
                            obtain rfl : ad216 = ad236 := (by injection e236)
                            have qi236 : (0 < t213.length) = True := eq_true (by omega)
                            (try rw [show ((0 : Int)).toNat = 0 from rfl] at hx236_0)
                            (try rw [show 0 * 3 = 0 from rfl] at hx236_0)
                            (try rw [Addr.add_zero'] at hx236_0)
                            (try rw [show ((0 : Int)).toNat = 0 from rfl] at hx236_1)
                            (try rw [show 0 * 3 = 0 from rfl] at hx236_1)
                            (try rw [Addr.add_zero'] at hx236_1)
                            (try rw [show ((0 : Int)).toNat = 0 from rfl] at hx236_2)
                            (try rw [show 0 * 3 = 0 from rfl] at hx236_2)
                            (try rw [Addr.add_zero'] at hx236_2)
                            replace p236 := eq_true p236
                            replace q236 := eq_true q236
                            have p237 : 0 ≤ (0 : Int) := (by omega)
                            have q237 : 0 < (t213.length : Int) := of_decide_eq_true (by first | (with_reducible assumption) | assumption)
                            obtain ⟨ad237, e237, hx237_0, hx237_1, hx237_2⟩ := at_T25 (Kd.R_reads' HO_11.out).2.2 0 p237 q237
                            obtain rfl : ad216 = ad237 := (by injection e237)
                            have qi237 : (0 < t213.length) = True := eq_true (by omega)
                            (try rw [show ((0 : Int)).toNat = 0 from rfl] at hx237_0)
                            (try rw [show 0 * 3 = 0 from rfl] at hx237_0)
                            (try rw [Addr.add_zero'] at hx237_0)
                            (try rw [show ((0 : Int)).toNat = 0 from rfl] at hx237_1)
                            (try rw [show 0 * 3 = 0 from rfl] at hx237_1)
                            (try rw [Addr.add_zero'] at hx237_1)
                            (try rw [show ((0 : Int)).toNat = 0 from rfl] at hx237_2)
                            (try rw [show 0 * 3 = 0 from rfl] at hx237_2)
                            (try rw [Addr.add_zero'] at hx237_2)
                            replace p237 := eq_true p237
                            replace q237 := eq_true q237
                            refine start_ (n := 16) (S := fun w' => w'.cell? ad216 = some (.int .i64 ((rd_T25 t213 0).f0)) ∧ w'.cell? ⟨ad216.block, ad216.off + 1, none⟩ = some (.int .i64 ((rd_T25 t213 0).f1)) ∧ w'.cell? ⟨ad216.block, ad216.off + 2, none⟩ = some (.int .i64 ((rd_T25 t213 0).f2)) ∧ w'.cell? ad216 = some (.int .i64 ((rd_T25 t213 0).f0)) ∧ w'.cell? ⟨ad216.block, ad216.off + 1, none⟩ = some (.int .i64 ((rd_T25 t213 0).f1)) ∧ w'.cell? ⟨ad216.block, ad216.off + 2, none⟩ = some (.int .i64 ((rd_T25 t213 0).f2))) (ds := []) #[false, false, false, false, false, false, false, false, false, false, false, false, false, false, false, false] (by kernel_rfl) rfl rfl ⟨hx236_0, hx236_1, hx236_2, hx237_0, hx237_1, hx237_2⟩ (fun hHeld => ?_); refine with_tabW airchecklaw15_TimelinePut.tab18 airchecklaw15_TimelinePut.bits18 (fun HT_ HW_ => ?_)
                            generalize wc.drew = w51 at HO_9 HO_11 HO_12 HB hx236_0 hx236_1 hx236_2 hx237_0 hx237_1 hx237_2 hHeld ⊢
                            refine pure_ (i := 0) (N := some 125) (v := ?_) (a' := ?_) #[true, false, false, false, false, false, false, false, false, false, false, false, false, false, false, false] rfl rfl (any_of HT_.out (by kernel_rfl)) (fun _ _ _ h => h) (Or.inl ⟨by rfl, ?_⟩) ?_ ?_
                            rotate_left
                            · intro w'
                              go_simp
                              with_reducible rfl
                            rotate_left
                            · simp only [Act.put, List.setIfInBounds_toArray, List.set_cons_zero, List.set_cons_succ, i64_w, i32_w]
                              rfl
                            refine pure_ (i := 1) (N := some 126) (v := ?_) (a' := ?_) #[true, true, false, false, false, false, false, false, false, false, false, false, false, false, false, false] rfl rfl (any_of HT_.out (by kernel_rfl)) (fun _ _ _ h => h) (Or.inl ⟨by rfl, ?_⟩) ?_ ?_
                            rotate_left
                            · intro w'
                              go_simp
                              with_reducible rfl
                            rotate_left
                            · simp only [Act.put, List.setIfInBounds_toArray, List.set_cons_zero, List.set_cons_succ, i64_w, i32_w]
                              rfl
                            refine pure_ (i := 2) (N := some 127) (v := ?_) (a' := ?_) #[true, true, true, false, false, false, false, false, false, false, false, false, false, false, false, false] rfl rfl (any_of HT_.out (by kernel_rfl)) (fun _ _ _ h => h) (Or.inl ⟨by rfl, ?_⟩) ?_ ?_
                            rotate_left
                            · intro w'
                              go_simp
                              with_reducible rfl
                            rotate_left
                            · simp only [Act.put, List.setIfInBounds_toArray, List.set_cons_zero, List.set_cons_succ, i64_w, i32_w]
                              rfl
                            refine pure_ (i := 3) (N := some 128) (v := ?_) (a' := ?_) #[true, true, true, true, false, false, false, false, false, false, false, false, false, false, false, false] rfl rfl (any_of HT_.out (by kernel_rfl)) (fun _ _ _ h => h) (Or.inl ⟨by rfl, ?_⟩) ?_ ?_
                            rotate_left
                            · intro w'
                              go_simp
                              with_reducible rfl
                            rotate_left
                            · simp only [Act.put, List.setIfInBounds_toArray, List.set_cons_zero, List.set_cons_succ, i64_w, i32_w]
                              rfl
                            refine pure_ (i := 5) (N := some 130) (v := ?_) (a' := ?_) #[true, true, true, true, false, true, false, false, false, false, false, false, false, false, false, false] rfl rfl (any_of HT_.out (by kernel_rfl)) (fun _ _ _ h => h) (Or.inl ⟨by rfl, ?_⟩) ?_ ?_
                            rotate_left
                            · intro w'
                              go_simp
                              with_reducible rfl
                            rotate_left
                            · simp only [Act.put, List.setIfInBounds_toArray, List.set_cons_zero, List.set_cons_succ, i64_w, i32_w]
                              rfl
                            refine pure_ (i := 6) (N := some 131) (v := ?_) (a' := ?_) #[true, true, true, true, false, true, true, false, false, false, false, false, false, false, false, false] rfl rfl (any_of HT_.out (by kernel_rfl)) (fun _ _ _ h => h) (Or.inl ⟨by rfl, ?_⟩) ?_ ?_
                            rotate_left
                            · intro w'
                              go_simp
                              with_reducible rfl
                            rotate_left
                            · simp only [Act.put, List.setIfInBounds_toArray, List.set_cons_zero, List.set_cons_succ, i64_w, i32_w]
                              rfl
                            refine pure_ (i := 7) (N := some 132) (v := ?_) (a' := ?_) #[true, true, true, true, false, true, true, true, false, false, false, false, false, false, false, false] rfl rfl (any_of HT_.out (by kernel_rfl)) (fun _ _ _ h => h) (Or.inl ⟨by rfl, ?_⟩) ?_ ?_
                            rotate_left
                            · intro w'
                              go_simp
                              with_reducible rfl
                            rotate_left
                            · simp only [Act.put, List.setIfInBounds_toArray, List.set_cons_zero, List.set_cons_succ, i64_w, i32_w]
                              rfl
                            refine take_ (i := 4) (N := some 129) (v := ?_) (a' := ?_) #[true, true, true, true, true, true, true, true, false, false, false, false, false, false, false, false] rfl rfl (take_ofW HT_.out HW_.out (by kernel_rfl)) (fun _ _ _ h => h) (Or.inl ⟨by rfl, ?_⟩) hHeld ?_ ?_
                            rotate_left
                            · rintro w' ⟨s0, s1, s2, s3, s4, s5⟩
                              go_simp
                              with_reducible rfl
                            rotate_left
                            · simp only [Act.put, List.setIfInBounds_toArray, List.set_cons_zero, List.set_cons_succ, i64_w, i32_w]
                              rfl
                            refine take_ (i := 8) (N := some 133) (v := ?_) (a' := ?_) #[true, true, true, true, true, true, true, true, true, false, false, false, false, false, false, false] rfl rfl (take_ofW HT_.out HW_.out (by kernel_rfl)) (fun _ _ _ h => h) (Or.inl ⟨by rfl, ?_⟩) hHeld ?_ ?_
                            rotate_left
                            · rintro w' ⟨s0, s1, s2, s3, s4, s5⟩
                              go_simp
                              with_reducible rfl
                            rotate_left
                            · simp only [Act.put, List.setIfInBounds_toArray, List.set_cons_zero, List.set_cons_succ, i64_w, i32_w]
                              rfl
                            refine pure_ (i := 9) (N := some 134) (v := ?_) (a' := ?_) #[true, true, true, true, true, true, true, true, true, true, false, false, false, false, false, false] rfl rfl (any_of HT_.out (by kernel_rfl)) (fun _ _ _ h => h) (Or.inl ⟨by rfl, ?_⟩) ?_ ?_
                            rotate_left
                            · intro w'
                              go_simp
                              with_reducible rfl
                            rotate_left
                            · simp only [Act.put, List.setIfInBounds_toArray, List.set_cons_zero, List.set_cons_succ, i64_w, i32_w]
                              rfl
                            refine one_ (i := 10) (N := some 135) #[true, true, true, true, true, true, true, true, true, true, true, false, false, false, false, false] rfl rfl (one_of HT_.out (by kernel_rfl)) (by decide) (fun K hK => ?_)
                            refine goes_ Try.func27 (by kernel_rfl) rfl #[.slice Ao21 t209.length co21, .agg #[.int .i64 ((rd_T25 t213 0).f0), .int .i64 ((rd_T25 t213 0).f1)]] (by rfl) rfl rfl (by (try simp only [List.map_toArray, List.map_cons, List.map_nil]); first | done | rfl | (simp only [List.length_drop, List.length_take]; rfl)) ?_
                            with_reducible refine (timeline_Within.calls _ _ t209 ((rd_T25 t213 0).f0) ((rd_T25 t213 0).f1) t238 t241 _ ?side1 ?side2 A50.out).mono ?_
                            (case side1 => repeat (first | exact (Kd.R_reads' HO_9.out).2.2 | (with_reducible refine Kd.C_alloc ?_ _) | (with_reducible refine Kd.C_drewN ?_ _) | (with_reducible refine Kd.C_drew ?_)))
                            (case side2 => exact (Kd.R_reads' HO_9.out).2.1)
                            rintro e w52 ⟨v239, rfl, ho0, hb⟩
                            have HS0_ := (hb.cell (World.block_lt_of_cell? _ _ (hHeld.1))).trans (hHeld.1)
                            have HS1_ := (hb.cell (World.block_lt_of_cell? _ _ (hHeld.2.1))).trans (hHeld.2.1)
                            have HS2_ := (hb.cell (World.block_lt_of_cell? _ _ (hHeld.2.2.1))).trans (hHeld.2.2.1)
                            have HS3_ := (hb.cell (World.block_lt_of_cell? _ _ (hHeld.2.2.2.1))).trans (hHeld.2.2.2.1)
                            have HS4_ := (hb.cell (World.block_lt_of_cell? _ _ (hHeld.2.2.2.2.1))).trans (hHeld.2.2.2.2.1)
                            have HS5_ := (hb.cell (World.block_lt_of_cell? _ _ (hHeld.2.2.2.2.2))).trans (hHeld.2.2.2.2.2)
                            refine ⟨_, rfl, ?_⟩
                            have n0_ := Aside0.mk (Kd.R_elder' (by (with_reducible repeat (first | apply Kd.R_alloc | apply Kd.R_drewN | apply Kd.R_drew)); exact HO_9.out) (Kd.R_base ho0) hb)
                            have n1_ := Aside0.mk (Kd.R_elder' (by (with_reducible repeat (first | apply Kd.R_alloc | apply Kd.R_drewN | apply Kd.R_drew)); exact HO_11.out) (Kd.R_base ho0) hb)
                            have n2_ := Aside0.mk (Kd.R_elder' (by (with_reducible repeat (first | apply Kd.R_alloc | apply Kd.R_drewN | apply Kd.R_drew)); exact HO_12.out) (Kd.R_base ho0) hb)
                            have n3_ := Aside0.mk (Kd.R_lower (Kd.R_new' (Kd.R_new' (Kd.R_new' ho0 (Kd.R_lt (by (with_reducible repeat (first | apply Kd.R_alloc | apply Kd.R_drewN | apply Kd.R_drew)); exact HO_9.out))) (Kd.R_lt (by (with_reducible repeat (first | apply Kd.R_alloc | apply Kd.R_drewN | apply Kd.R_drew)); exact HO_11.out))) (Kd.R_lt (by (with_reducible repeat (first | apply Kd.R_alloc | apply Kd.R_drewN | apply Kd.R_drew)); exact HO_12.out))) (below_size (by repeat (first | (with_reducible first | exact HB.out | apply below_alloc | apply pw_below_drewN | apply below_drew1) | exact HB.out))))
                            have n4_ := Aside0.mk (below_step (by repeat (first | (with_reducible first | exact HB.out | apply below_alloc | apply pw_below_drewN | apply below_drew1) | exact HB.out)) hb)
                            clear HO_9
                            clear HO_11
                            clear HO_12
                            clear HB
                            have HO_9 := n0_
                            have HO_11 := n1_
                            have HO_12 := n2_
                            have HO240 := n3_
                            have HB := n4_
                            clear n0_ n1_ n2_ n3_ n4_
                            (try clear hb)
                            (try clear hb2)
                            (try clear hk)
                            (try clear hi)
                            (try clear ho0)
                            refine hK.out _ _ ⟨HS0_, HS1_, HS2_, HS3_, HS4_, HS5_⟩ (fun hHeld => ?_)
                            clear hK K
                            refine norm_ (a' := ?_) ?_ ?_
                            rotate_left
                            · show Act.put _ (some 135) _ = _
                              simp only [Act.put, List.setIfInBounds_toArray, List.set_cons_zero, List.set_cons_succ, i64_w, i32_w]
                              rfl
                            refine pure_ (i := 11) (N := some 124) (v := ?_) (a' := ?_) #[true, true, true, true, true, true, true, true, true, true, true, true, false, false, false, false] rfl rfl (any_of HT_.out (by kernel_rfl)) (fun _ _ _ h => h) (Or.inl ⟨by rfl, ?_⟩) ?_ ?_
                            rotate_left
                            · intro w'
                              go_simp
                              with_reducible rfl
                            rotate_left
                            · simp only [Act.put, List.setIfInBounds_toArray, List.set_cons_zero, List.set_cons_succ, i64_w, i32_w]
                              rfl
                            refine pure_ (i := 12) (N := some 136) (v := ?_) (a' := ?_) #[true, true, true, true, true, true, true, true, true, true, true, true, true, false, false, false] rfl rfl (any_of HT_.out (by kernel_rfl)) (fun _ _ _ h => h) (Or.inl ⟨by rfl, ?_⟩) ?_ ?_
                            rotate_left
                            · intro w'
                              go_simp
                              with_reducible rfl
                            rotate_left
                            · simp only [Act.put, List.setIfInBounds_toArray, List.set_cons_zero, List.set_cons_succ, i64_w, i32_w]
                              rfl
                            refine pure_ (i := 13) (N := some 137) (v := ?_) (a' := ?_) #[true, true, true, true, true, true, true, true, true, true, true, true, true, true, false, false] rfl rfl (any_of HT_.out (by kernel_rfl)) (fun _ _ _ h => h) (Or.inl ⟨by rfl, ?_⟩) ?_ ?_
                            rotate_left
                            · intro w'
                              go_simp
                              with_reducible rfl
                            rotate_left
                            · simp only [Act.put, List.setIfInBounds_toArray, List.set_cons_zero, List.set_cons_succ, i64_w, i32_w]
                              rfl
                            refine pure_ (i := 14) (N := some 22) (v := ?_) (a' := ?_) #[true, true, true, true, true, true, true, true, true, true, true, true, true, true, true, false] rfl rfl (any_of HT_.out (by kernel_rfl)) (fun _ _ _ h => h) (Or.inl ⟨by rfl, ?_⟩) ?_ ?_
                            rotate_left
                            · intro w'
                              go_simp
                              with_reducible rfl
                            rotate_left
                            · simp only [Act.put, List.setIfInBounds_toArray, List.set_cons_zero, List.set_cons_succ, i64_w, i32_w]
                              rfl
                            refine pure_ (i := 15) (N := some 23) (v := ?_) (a' := ?_) #[true, true, true, true, true, true, true, true, true, true, true, true, true, true, true, true] rfl rfl (any_of HT_.out (by kernel_rfl)) (fun _ _ _ h => h) (Or.inl ⟨by rfl, ?_⟩) ?_ ?_
                            rotate_left
                            · intro w'
                              go_simp
                              with_reducible rfl
                            rotate_left
                            · simp only [Act.put, List.setIfInBounds_toArray, List.set_cons_zero, List.set_cons_succ, i64_w, i32_w]
                              rfl
                            refine done_ (done_of HT_.out (by kernel_rfl)) ?_
                            try go_wp2
                            go_loopg [24, 25] kj44 (fun kq v24 v25 w' => ∃ (x24_5 : List (S25)) (x25_5 : Int), v25 = .int .i64 x25_5 ∧ Aside0 (airchecklaw15_TimelinePut.l0 kq t209 t213 t217 t238 t241 x24_5 x25_5 = some r) ∧ Aside0 (kq ≤ kj44) ∧ Aside0 (Kd.R k25 25 w' w.heap.size (fun k_ => some k_ ≠ ((.slice (some ad216) t213.length co20) : Value).ownBlock ∧ some k_ ≠ ((.slice Ao23 t217.length co23) : Value).ownBlock ∧ some k_ ≠ (v239 : Value).ownBlock ∧ some k_ ≠ (v24 : Value).ownBlock) (.slice Ao21 t209.length co21) t209) ∧ Aside0 (Kd.R k25 25 w' w.heap.size (fun k_ => some k_ ≠ ((.slice Ao21 t209.length co21) : Value).ownBlock ∧ some k_ ≠ ((.slice Ao23 t217.length co23) : Value).ownBlock ∧ some k_ ≠ (v239 : Value).ownBlock ∧ some k_ ≠ (v24 : Value).ownBlock) (.slice (some ad216) t213.length co20) t213) ∧ Aside0 (Kd.R k25 25 w' w.heap.size (fun k_ => some k_ ≠ ((.slice Ao21 t209.length co21) : Value).ownBlock ∧ some k_ ≠ ((.slice (some ad216) t213.length co20) : Value).ownBlock ∧ some k_ ≠ (v239 : Value).ownBlock) (.slice Ao23 t217.length co23) t217) ∧ Aside0 (Kd.R k25 25 w' w.heap.size (fun k_ => some k_ ≠ ((.slice Ao21 t209.length co21) : Value).ownBlock ∧ some k_ ≠ ((.slice (some ad216) t213.length co20) : Value).ownBlock ∧ some k_ ≠ ((.slice Ao23 t217.length co23) : Value).ownBlock ∧ some k_ ≠ (v24 : Value).ownBlock) v239 t238) ∧ Aside0 (Kd.R k25 25 w' w.heap.size (fun k_ => some k_ ≠ ((.slice Ao21 t209.length co21) : Value).ownBlock ∧ some k_ ≠ ((.slice (some ad216) t213.length co20) : Value).ownBlock ∧ some k_ ≠ (v239 : Value).ownBlock) v24 x24_5) ∧ Aside0 (Below w.heap.size w w'))
                            case atStart => exact ⟨(t217), (0), (by first | rfl | (simp; done) | (simp [*]; done)), H', ⟨Nat.le_refl _⟩, ⟨by (with_reducible repeat (first | apply Kd.R_alloc | apply Kd.R_drewN | apply Kd.R_drew)); exact Kd.R_mono HO_9.out (fun _ hk => ⟨hk.1.1, ⟨hk.1.2, ⟨hk.2, hk.1.2⟩⟩⟩)⟩, ⟨by (with_reducible repeat (first | apply Kd.R_alloc | apply Kd.R_drewN | apply Kd.R_drew)); exact Kd.R_mono HO_11.out (fun _ hk => ⟨hk.1.1, ⟨hk.1.2, ⟨hk.2, hk.1.2⟩⟩⟩)⟩, ⟨by (with_reducible repeat (first | apply Kd.R_alloc | apply Kd.R_drewN | apply Kd.R_drew)); exact Kd.R_mono HO_12.out (fun _ hk => ⟨hk.1.1, ⟨hk.1.2, hk.2⟩⟩)⟩, ⟨by (with_reducible repeat (first | apply Kd.R_alloc | apply Kd.R_drewN | apply Kd.R_drew)); exact Kd.R_mono HO240.out (fun _ hk => ⟨hk.1.1.2, ⟨hk.1.2, ⟨hk.2, hk.2⟩⟩⟩)⟩, ⟨by (with_reducible repeat (first | apply Kd.R_alloc | apply Kd.R_drewN | apply Kd.R_drew)); exact Kd.R_mono HO_12.out (fun _ hk => ⟨hk.1.1, ⟨hk.1.2, hk.2⟩⟩)⟩, ⟨by repeat (first | (with_reducible first | exact HB.out | apply below_alloc | apply pw_below_drewN | apply below_drew1) | exact HB.out)⟩⟩
                            case round => as_aux_lemma =>
                              clear H'
                              try clear c1
                              try clear c2
                              try clear p2
                              try clear q2
                              try clear hx2
                              try clear qi2
                              try clear c3
                              try clear c4
                              try clear c5
                              try clear c6
                              try clear p6
                              try clear c10
                              try clear c10b0
                              try clear c10b1
                              try clear c11
                              try clear c12
                              try clear c13
                              try clear c20
                              try clear p21
                              try clear q21
                              try clear hx21
                              try clear qi21
                              try clear p22
                              try clear q22
                              try clear hx22
                              try clear qi22
                              try clear p23
                              try clear q23
                              try clear hx23
                              try clear qi23
                              try clear c25
                              try clear c25b0
                              try clear c25b1
                              try clear c26
                              try clear c26b0
                              try clear c26b1
                              try clear c27
                              try clear c28
                              try clear c33
                              try clear c40
                              try clear c40b0
                              try clear c40b1
                              try clear c41
                              try clear c41b0
                              try clear c43
                              try clear c44
                              try clear c44b0
                              try clear c44b1
                              try clear c46
                              try clear c46b0
                              try clear c46b1
                              try clear c47
                              try clear c47b0
                              try clear c47b1
                              try clear c48
                              try clear c49
                              try clear c49b0
                              try clear c49b1
                              try clear hx216_0
                              try clear hx216_1
                              try clear hx216_2
                              try clear hx221_0
                              try clear hx221_1
                              try clear hx221_2
                              try clear hx233_0
                              try clear hx233_1
                              try clear hx233_2
                              try clear hx234_0
                              try clear hx234_1
                              try clear hx234_2
                              try clear hx235_0
                              try clear hx235_1
                              try clear hx235_2
                              try clear hx236_0
                              try clear hx236_1
                              try clear hx236_2
                              try clear hx237_0
                              try clear hx237_1
                              try clear hx237_2
                              try clear p2
                              try clear p21
                              try clear p216
                              try clear p22
                              try clear p221
                              try clear p23
                              try clear p233
                              try clear p234
                              try clear p235
                              try clear p236
                              try clear p237
                              try clear p6
                              try clear q2
                              try clear q21
                              try clear q216
                              try clear q22
                              try clear q221
                              try clear q23
                              try clear q233
                              try clear q234
                              try clear q235
                              try clear q236
                              try clear q237
                              obtain ⟨x24_5, x25_5, rfl, HA, HK5, HO_9, HO_11, HO_12, HO_22, HO_24, HB⟩ := hrel
                              cases gk with
                              | zero => exact absurd HA.out (by simp [airchecklaw15_TimelinePut.l0])
                              | succ k5 =>
                                have H := HA.out
                                clear HA
                                simp only [airchecklaw15_TimelinePut.l0] at H
                                by_cases c53 : x25_5 < (t238.length : Int)
                                · rw [if_pos c53] at H
                                  have c53b0 : decide (x25_5 < (t238.length : Int)) = true := decide_eq_true c53
                                  clear c53
                                  by_cases c54 : 0 ≤ x25_5
                                  · rw [if_pos c54] at H
                                    have c54b0 : decide (0 ≤ x25_5) = true := decide_eq_true c54
                                    clear c54
                                    replace H := Option.bind_eq_some_iff.mp H
                                    obtain ⟨⟨t243, t246⟩, A550, H⟩ := H
                                    replace H : (if t246 = 0 then (airchecklaw15_TimelinePut.l0 k5 t209 t213 t217 t238 t241 t243 (wrap64 (x25_5 + 1))) else (some false)) = some r := H
                                    have A55 := Aside0.mk A550
                                    clear A550
                                    by_cases c56 : t246 = 0
                                    · rw [if_pos c56] at H
                                      have c56b0 : (t246 == 0) = true := beq_iff_eq.mpr c56
                                      have c56b1 : (t246 != 0) = false := bne_eq_false_iff_eq.mpr c56
                                      clear c56
                                      have H' := Aside0.mk H
                                      clear H
                                      obtain ⟨Ao57, co57, eo57⟩ := Kd.R_slice HO_22.out
                                      subst eo57
                                      have p242 : 0 ≤ (x25_5 : Int) := of_decide_eq_true (by first | (with_reducible assumption) | assumption)
                                      have q242 : x25_5 < (t238.length : Int) := of_decide_eq_true (by first | (with_reducible assumption) | assumption)
                                      obtain ⟨ad242, e242, hx242_0, hx242_1, hx242_2⟩ := at_T25 (Kd.R_reads' HO_22.out).2.2 x25_5 p242 q242
                                      cases e242
                                      replace p242 := eq_true p242
                                      replace q242 := eq_true q242
                                      obtain ⟨Ao58, co58, eo58⟩ := Kd.R_slice HO_24.out
                                      subst eo58
                                      go_wp2_with (first | ((with_reducible refine gate_callee (f := 25) rfl ?_); refine goesL_ (some 151) rfl rfl Try.func25 (by kernel_rfl) rfl #[.slice Ao58 x24_5.length co58, .agg #[.int .i64 ((rd_T25 t238 x25_5).f0), .int .i64 ((rd_T25 t238 x25_5).f1), .int .i64 ((rd_T25 t238 x25_5).f2)]] rfl (by (try simp only [List.map_toArray, List.map_cons, List.map_nil]); first | done | rfl | (simp only [List.length_drop, List.length_take]; rfl)) ?_; (with_reducible refine (timeline_Put.calls _ _ x24_5 ((rd_T25 t238 x25_5).f0) ((rd_T25 t238 x25_5).f1) ((rd_T25 t238 x25_5).f2) t243 t246 _ ?side1 ?side2 A55.out).mono ?_); (case side1 => repeat (first | exact (Kd.R_reads' HO_24.out).2.2 | (with_reducible refine Kd.C_alloc ?_ _) | (with_reducible refine Kd.C_drewN ?_ _) | (with_reducible refine Kd.C_drew ?_))); (case side2 => exact (Kd.R_reads' HO_24.out).2.1); rintro e w59 ⟨v244, rfl, ho0, hb⟩; refine ⟨_, rfl, ?_⟩; have n0_ := Aside0.mk (Kd.R_elder' (by (with_reducible repeat (first | apply Kd.R_alloc | apply Kd.R_drewN | apply Kd.R_drew)); exact HO_9.out) (Kd.R_base ho0) hb); have n1_ := Aside0.mk (Kd.R_elder' (by (with_reducible repeat (first | apply Kd.R_alloc | apply Kd.R_drewN | apply Kd.R_drew)); exact HO_11.out) (Kd.R_base ho0) hb); have n2_ := Aside0.mk (Kd.R_elder' (by (with_reducible repeat (first | apply Kd.R_alloc | apply Kd.R_drewN | apply Kd.R_drew)); exact HO_12.out) (Kd.R_base ho0) hb); have n3_ := Aside0.mk (Kd.R_elder' (by (with_reducible repeat (first | apply Kd.R_alloc | apply Kd.R_drewN | apply Kd.R_drew)); exact HO_22.out) (Kd.R_base ho0) hb); have n4_ := Aside0.mk (Kd.R_elder' (by (with_reducible repeat (first | apply Kd.R_alloc | apply Kd.R_drewN | apply Kd.R_drew)); exact HO_24.out) (Kd.R_base ho0) hb); have n5_ := Aside0.mk (Kd.R_lower (Kd.R_new' (Kd.R_new' (Kd.R_new' (Kd.R_new' (Kd.R_new' ho0 (Kd.R_lt (by (with_reducible repeat (first | apply Kd.R_alloc | apply Kd.R_drewN | apply Kd.R_drew)); exact HO_9.out))) (Kd.R_lt (by (with_reducible repeat (first | apply Kd.R_alloc | apply Kd.R_drewN | apply Kd.R_drew)); exact HO_11.out))) (Kd.R_lt (by (with_reducible repeat (first | apply Kd.R_alloc | apply Kd.R_drewN | apply Kd.R_drew)); exact HO_12.out))) (Kd.R_lt (by (with_reducible repeat (first | apply Kd.R_alloc | apply Kd.R_drewN | apply Kd.R_drew)); exact HO_22.out))) (Kd.R_lt (by (with_reducible repeat (first | apply Kd.R_alloc | apply Kd.R_drewN | apply Kd.R_drew)); exact HO_24.out))) (below_size (by repeat (first | (with_reducible first | exact HB.out | apply below_alloc | apply pw_below_drewN | apply below_drew1) | exact HB.out)))); have n6_ := Aside0.mk (below_step (by repeat (first | (with_reducible first | exact HB.out | apply below_alloc | apply pw_below_drewN | apply below_drew1) | exact HB.out)) hb); clear HO_9; clear HO_11; clear HO_12; clear HO_22; clear HO_24; clear HB; have HO_9 := n0_; have HO_11 := n1_; have HO_12 := n2_; have HO_22 := n3_; have HO_24 := n4_; have HO245 := n5_; have HB := n6_; clear n0_ n1_ n2_ n3_ n4_ n5_ n6_; (try clear hb); (try clear hb2); (try clear hk); (try clear hi); (try clear ho0)))
                                      go_roundg k5
                                      case measure => have := HJ12.out; have := HJ36.out; have := HJ41.out; have := HJ44.out; have := HK5.out; omega
                                      case rel => exact ⟨(t243), (wrap64 (x25_5 + 1)), (by first | rfl | (simp; done) | (simp [*]; done)), H', ⟨by have := HJ12.out; have := HJ36.out; have := HJ41.out; have := HJ44.out; have := HK5.out; omega⟩, ⟨by (with_reducible repeat (first | apply Kd.R_alloc | apply Kd.R_drewN | apply Kd.R_drew)); exact Kd.R_mono HO_9.out (fun _ hk => ⟨hk.1.1, ⟨hk.1.2.1, ⟨hk.1.2.2.1, hk.2⟩⟩⟩)⟩, ⟨by (with_reducible repeat (first | apply Kd.R_alloc | apply Kd.R_drewN | apply Kd.R_drew)); exact Kd.R_mono HO_11.out (fun _ hk => ⟨hk.1.1, ⟨hk.1.2.1, ⟨hk.1.2.2.1, hk.2⟩⟩⟩)⟩, ⟨by (with_reducible repeat (first | apply Kd.R_alloc | apply Kd.R_drewN | apply Kd.R_drew)); exact Kd.R_mono HO_12.out (fun _ hk => ⟨hk.1.1, ⟨hk.1.2.1, hk.1.2.2⟩⟩)⟩, ⟨by (with_reducible repeat (first | apply Kd.R_alloc | apply Kd.R_drewN | apply Kd.R_drew)); exact Kd.R_mono HO_22.out (fun _ hk => ⟨hk.1.1, ⟨hk.1.2.1, ⟨hk.1.2.2.1, hk.2⟩⟩⟩)⟩, ⟨by (with_reducible repeat (first | apply Kd.R_alloc | apply Kd.R_drewN | apply Kd.R_drew)); exact Kd.R_mono HO245.out (fun _ hk => ⟨hk.1.1.1.1.2, ⟨hk.1.1.1.2, hk.1.2⟩⟩)⟩, ⟨by repeat (first | (with_reducible first | exact HB.out | apply below_alloc | apply pw_below_drewN | apply below_drew1) | exact HB.out)⟩⟩
                                    · rw [if_neg c56] at H
                                      have c56b0 : (t246 == 0) = false := beq_eq_false_iff_ne.mpr c56
                                      have c56b1 : (t246 != 0) = true := bne_iff_ne.mpr c56
                                      obtain rfl := Option.some.inj H
                                      obtain ⟨Ao60, co60, eo60⟩ := Kd.R_slice HO_22.out
                                      subst eo60
                                      have p242 : 0 ≤ (x25_5 : Int) := of_decide_eq_true (by first | (with_reducible assumption) | assumption)
                                      have q242 : x25_5 < (t238.length : Int) := of_decide_eq_true (by first | (with_reducible assumption) | assumption)
                                      obtain ⟨ad242, e242, hx242_0, hx242_1, hx242_2⟩ := at_T25 (Kd.R_reads' HO_22.out).2.2 x25_5 p242 q242
                                      cases e242
                                      replace p242 := eq_true p242
                                      replace q242 := eq_true q242
                                      obtain ⟨Ao61, co61, eo61⟩ := Kd.R_slice HO_24.out
                                      subst eo61
                                      go_wp2_with (first | ((with_reducible refine gate_callee (f := 25) rfl ?_); refine goesL_ (some 151) rfl rfl Try.func25 (by kernel_rfl) rfl #[.slice Ao61 x24_5.length co61, .agg #[.int .i64 ((rd_T25 t238 x25_5).f0), .int .i64 ((rd_T25 t238 x25_5).f1), .int .i64 ((rd_T25 t238 x25_5).f2)]] rfl (by (try simp only [List.map_toArray, List.map_cons, List.map_nil]); first | done | rfl | (simp only [List.length_drop, List.length_take]; rfl)) ?_; (with_reducible refine (timeline_Put.calls _ _ x24_5 ((rd_T25 t238 x25_5).f0) ((rd_T25 t238 x25_5).f1) ((rd_T25 t238 x25_5).f2) t243 t246 _ ?side1 ?side2 A55.out).mono ?_); (case side1 => repeat (first | exact (Kd.R_reads' HO_24.out).2.2 | (with_reducible refine Kd.C_alloc ?_ _) | (with_reducible refine Kd.C_drewN ?_ _) | (with_reducible refine Kd.C_drew ?_))); (case side2 => exact (Kd.R_reads' HO_24.out).2.1); rintro e w62 ⟨v244, rfl, ho0, hb⟩; refine ⟨_, rfl, ?_⟩; have n0_ := Aside0.mk (Kd.R_elder' (by (with_reducible repeat (first | apply Kd.R_alloc | apply Kd.R_drewN | apply Kd.R_drew)); exact HO_9.out) (Kd.R_base ho0) hb); have n1_ := Aside0.mk (Kd.R_elder' (by (with_reducible repeat (first | apply Kd.R_alloc | apply Kd.R_drewN | apply Kd.R_drew)); exact HO_11.out) (Kd.R_base ho0) hb); have n2_ := Aside0.mk (Kd.R_elder' (by (with_reducible repeat (first | apply Kd.R_alloc | apply Kd.R_drewN | apply Kd.R_drew)); exact HO_12.out) (Kd.R_base ho0) hb); have n3_ := Aside0.mk (Kd.R_elder' (by (with_reducible repeat (first | apply Kd.R_alloc | apply Kd.R_drewN | apply Kd.R_drew)); exact HO_22.out) (Kd.R_base ho0) hb); have n4_ := Aside0.mk (Kd.R_elder' (by (with_reducible repeat (first | apply Kd.R_alloc | apply Kd.R_drewN | apply Kd.R_drew)); exact HO_24.out) (Kd.R_base ho0) hb); have n5_ := Aside0.mk (Kd.R_lower (Kd.R_new' (Kd.R_new' (Kd.R_new' (Kd.R_new' (Kd.R_new' ho0 (Kd.R_lt (by (with_reducible repeat (first | apply Kd.R_alloc | apply Kd.R_drewN | apply Kd.R_drew)); exact HO_9.out))) (Kd.R_lt (by (with_reducible repeat (first | apply Kd.R_alloc | apply Kd.R_drewN | apply Kd.R_drew)); exact HO_11.out))) (Kd.R_lt (by (with_reducible repeat (first | apply Kd.R_alloc | apply Kd.R_drewN | apply Kd.R_drew)); exact HO_12.out))) (Kd.R_lt (by (with_reducible repeat (first | apply Kd.R_alloc | apply Kd.R_drewN | apply Kd.R_drew)); exact HO_22.out))) (Kd.R_lt (by (with_reducible repeat (first | apply Kd.R_alloc | apply Kd.R_drewN | apply Kd.R_drew)); exact HO_24.out))) (below_size (by repeat (first | (with_reducible first | exact HB.out | apply below_alloc | apply pw_below_drewN | apply below_drew1) | exact HB.out)))); have n6_ := Aside0.mk (below_step (by repeat (first | (with_reducible first | exact HB.out | apply below_alloc | apply pw_below_drewN | apply below_drew1) | exact HB.out)) hb); clear HO_9; clear HO_11; clear HO_12; clear HO_22; clear HO_24; clear HB; have HO_9 := n0_; have HO_11 := n1_; have HO_12 := n2_; have HO_22 := n3_; have HO_24 := n4_; have HO245 := n5_; have HB := n6_; clear n0_ n1_ n2_ n3_ n4_ n5_ n6_; (try clear hb); (try clear hb2); (try clear hk); (try clear hi); (try clear ho0)))
                                      go_ret
                                      exact ⟨by first | rfl | (simp [errW_none, errW_some] <;> rfl) | (simp [*, errW_none, errW_some] <;> rfl), by repeat (first | (with_reducible first | exact HB.out | apply below_alloc | apply pw_below_drewN | apply below_drew1) | exact HB.out)⟩
                                  · rw [if_neg c54] at H
                                    exact absurd H (by simp)
                                · rw [if_neg c53] at H
                                  have c53b0 : decide (x25_5 < (t238.length : Int)) = false := decide_eq_false c53
                                  clear c53
                                  have HC63 := Aside0.mk H
                                  clear H
                                  obtain ⟨Ao64, co64, eo64⟩ := Kd.R_slice HO_22.out
                                  subst eo64
                                  go_upto_region 27 with (fail)
                                  go_cut [164] (fun v164 wc => ∃ (kq : Nat) (x164_62 : Bool), v164 = .bool x164_62 ∧ Aside0 (airchecklaw15_TimelinePut.j5 kq t209 t213 t217 x164_62 = some r) ∧ Aside0 (kq ≤ k5) ∧ Aside0 (Kd.R k25 25 wc w.heap.size (fun k_ => some k_ ≠ ((.slice (some ad216) t213.length co20) : Value).ownBlock ∧ some k_ ≠ ((.slice Ao23 t217.length co23) : Value).ownBlock) (.slice Ao21 t209.length co21) t209) ∧ Aside0 (Kd.R k25 25 wc w.heap.size (fun k_ => some k_ ≠ ((.slice Ao21 t209.length co21) : Value).ownBlock ∧ some k_ ≠ ((.slice Ao23 t217.length co23) : Value).ownBlock) (.slice (some ad216) t213.length co20) t213) ∧ Aside0 (Kd.R k25 25 wc w.heap.size (fun k_ => some k_ ≠ ((.slice Ao21 t209.length co21) : Value).ownBlock ∧ some k_ ≠ ((.slice (some ad216) t213.length co20) : Value).ownBlock) (.slice Ao23 t217.length co23) t217) ∧ Aside0 (Below w.heap.size w wc))
                                  case first =>
                                    have H := HC63.out
                                    clear HC63
                                    by_cases c65 : t241 = 0
                                    · rw [if_pos c65] at H
                                      have c65b0 : (t241 == 0) = true := beq_iff_eq.mpr c65
                                      have c65b1 : (t241 != 0) = false := bne_eq_false_iff_eq.mpr c65
                                      clear c65
                                      (first | rw [c65b0] | (simp only [i64_w, i32_w]; rw [c65b0]) | skip)
                                      replace H := Option.bind_eq_some_iff.mp H
                                      obtain ⟨t247, A660, H⟩ := H
                                      replace H : (airchecklaw15_TimelinePut.j5 k5 t209 t213 t217 (!t247)) = some r := H
                                      have A66 := Aside0.mk A660
                                      clear A660
                                      have H' := Aside0.mk H
                                      clear H
                                      obtain ⟨Ao67, co67, eo67⟩ := Kd.R_slice HO_24.out
                                      subst eo67
                                      go_wp2_with (first | (go_at_call 24; (with_reducible refine (aircheckref15_Same.calls k5 _ _ x24_5 _ _ t209 t247 _ ?side1 ?side2 ?side3 ?side4 A66.out).mono ?_); (case side1 => repeat (first | exact (Kd.R_reads' HO_24.out).2.2 | (with_reducible refine Kd.C_alloc ?_ _) | (with_reducible refine Kd.C_drewN ?_ _) | (with_reducible refine Kd.C_drew ?_))); (case side2 => exact (Kd.R_reads' HO_24.out).2.1); (case side3 => repeat (first | exact (Kd.R_reads' HO_9.out).2.2 | (with_reducible refine Kd.C_alloc ?_ _) | (with_reducible refine Kd.C_drewN ?_ _) | (with_reducible refine Kd.C_drew ?_))); (case side4 => exact (Kd.R_reads' HO_9.out).2.1); rintro e w' ⟨rfl, ⟨nd, rfl⟩⟩))
                                      go_meet
                                      case rel => exact ⟨_, (!t247), (by first | rfl | (simp; done) | (simp [*]; done)), H', ⟨by have := HJ12.out; have := HJ36.out; have := HJ41.out; have := HJ44.out; have := HK5.out; first | omega | exact Nat.le_refl _⟩, ⟨by (with_reducible repeat (first | apply Kd.R_alloc | apply Kd.R_drewN | apply Kd.R_drew)); exact Kd.R_mono HO_9.out (fun _ hk => ⟨hk.1, hk.2.1⟩)⟩, ⟨by (with_reducible repeat (first | apply Kd.R_alloc | apply Kd.R_drewN | apply Kd.R_drew)); exact Kd.R_mono HO_11.out (fun _ hk => ⟨hk.1, hk.2.1⟩)⟩, ⟨by (with_reducible repeat (first | apply Kd.R_alloc | apply Kd.R_drewN | apply Kd.R_drew)); exact Kd.R_mono HO_12.out (fun _ hk => ⟨hk.1, hk.2.1⟩)⟩, ⟨by repeat (first | (with_reducible first | exact HB.out | apply below_alloc | apply pw_below_drewN | apply below_drew1) | exact HB.out)⟩⟩
                                    · rw [if_neg c65] at H
                                      have c65b0 : (t241 == 0) = false := beq_eq_false_iff_ne.mpr c65
                                      have c65b1 : (t241 != 0) = true := bne_iff_ne.mpr c65
                                      (first | rw [c65b0] | (simp only [i64_w, i32_w]; rw [c65b0]) | skip)
                                      exact absurd H (by rw [hr0.out]; unfold airchecklaw15_TimelinePut.j5; split <;> simp)
                                  case rest => as_aux_lemma =>
                                    clear HC63
                                    try clear c1
                                    try clear c2
                                    try clear p2
                                    try clear q2
                                    try clear hx2
                                    try clear qi2
                                    try clear c3
                                    try clear c4
                                    try clear c5
                                    try clear c6
                                    try clear p6
                                    try clear c10
                                    try clear c10b0
                                    try clear c10b1
                                    try clear c11
                                    try clear c12
                                    try clear c13
                                    try clear c20
                                    try clear p21
                                    try clear q21
                                    try clear hx21
                                    try clear qi21
                                    try clear p22
                                    try clear q22
                                    try clear hx22
                                    try clear qi22
                                    try clear p23
                                    try clear q23
                                    try clear hx23
                                    try clear qi23
                                    try clear p24
                                    try clear q24
                                    try clear hx24
                                    try clear c25
                                    try clear c25b0
                                    try clear c25b1
                                    try clear c26
                                    try clear c26b0
                                    try clear c26b1
                                    try clear c27
                                    try clear c28
                                    try clear c33
                                    try clear c40
                                    try clear c40b0
                                    try clear c40b1
                                    try clear c41
                                    try clear c41b0
                                    try clear c43
                                    try clear c44
                                    try clear c44b0
                                    try clear c44b1
                                    try clear c46
                                    try clear c46b0
                                    try clear c46b1
                                    try clear c47
                                    try clear c47b0
                                    try clear c47b1
                                    try clear c48
                                    try clear c49
                                    try clear c49b0
                                    try clear c49b1
                                    try clear c53
                                    try clear c53b0
                                    try clear c54
                                    try clear c54b0
                                    try clear c56
                                    try clear c56b0
                                    try clear c56b1
                                    try clear p64
                                    try clear c65
                                    try clear c65b0
                                    try clear c65b1
                                    try clear hx216_0
                                    try clear hx216_1
                                    try clear hx216_2
                                    try clear hx221_0
                                    try clear hx221_1
                                    try clear hx221_2
                                    try clear hx233_0
                                    try clear hx233_1
                                    try clear hx233_2
                                    try clear hx234_0
                                    try clear hx234_1
                                    try clear hx234_2
                                    try clear hx235_0
                                    try clear hx235_1
                                    try clear hx235_2
                                    try clear hx236_0
                                    try clear hx236_1
                                    try clear hx236_2
                                    try clear hx237_0
                                    try clear hx237_1
                                    try clear hx237_2
                                    try clear hx242_0
                                    try clear hx242_1
                                    try clear hx242_2
                                    try clear p2
                                    try clear p21
                                    try clear p216
                                    try clear p22
                                    try clear p221
                                    try clear p23
                                    try clear p233
                                    try clear p234
                                    try clear p235
                                    try clear p236
                                    try clear p237
                                    try clear p242
                                    try clear p6
                                    try clear q2
                                    try clear q21
                                    try clear q216
                                    try clear q22
                                    try clear q221
                                    try clear q23
                                    try clear q233
                                    try clear q234
                                    try clear q235
                                    try clear q236
                                    try clear q237
                                    try clear q242
                                    obtain ⟨kq, x164_62, rfl, HA, HJ62, HO_9, HO_11, HO_12, HB⟩ := hcut
                                    cases kq with
                                    | zero => exact absurd HA.out (by simp [airchecklaw15_TimelinePut.j5])
                                    | succ kj62 =>
                                      have H := HA.out
                                      clear HA
                                      simp only [airchecklaw15_TimelinePut.j5] at H
                                      by_cases c68 : x164_62 = true
                                      · subst c68
                                        have H1 : (some false) = some r := by rw [if_pos rfl] at H; exact H
                                        exact absurd (Option.some.inj H1) (by rw [hr0.out]; exact Bool.false_ne_true)
                                      · replace c68 := Bool.eq_false_iff.mpr c68
                                        subst c68
                                        have H1 : (if 0 < (t213.length : Int) then (if 1 < (t213.length : Int) then (if ((rd_T25 t213 0).f1) > ((rd_T25 t213 1).f0) then (airchecklaw15_TimelinePut.j6 kj62 t209 t213 t217 (decide (((rd_T25 t213 1).f1) > ((rd_T25 t213 0).f0)))) else (airchecklaw15_TimelinePut.j6 kj62 t209 t213 t217 false)) else (none)) else (none)) = some r := by rw [if_neg (show ¬ (false = true) by decide)] at H; exact H
                                        clear H
                                        have H := H1
                                        clear H1
                                        have HC69 := Aside0.mk H
                                        clear H
                                        go_upto_region 29 with (fail)
                                        go_cut [184] (fun v184 wc => ∃ (kq : Nat) (x184_68 : Bool), v184 = .bool x184_68 ∧ Aside0 (airchecklaw15_TimelinePut.j6 kq t209 t213 t217 x184_68 = some r) ∧ Aside0 (kq ≤ kj62) ∧ Aside0 (Kd.R k25 25 wc w.heap.size (fun k_ => some k_ ≠ ((.slice (some ad216) t213.length co20) : Value).ownBlock ∧ some k_ ≠ ((.slice Ao23 t217.length co23) : Value).ownBlock) (.slice Ao21 t209.length co21) t209) ∧ Aside0 (Kd.R k25 25 wc w.heap.size (fun k_ => some k_ ≠ ((.slice Ao21 t209.length co21) : Value).ownBlock ∧ some k_ ≠ ((.slice Ao23 t217.length co23) : Value).ownBlock) (.slice (some ad216) t213.length co20) t213) ∧ Aside0 (Kd.R k25 25 wc w.heap.size (fun k_ => some k_ ≠ ((.slice Ao21 t209.length co21) : Value).ownBlock ∧ some k_ ≠ ((.slice (some ad216) t213.length co20) : Value).ownBlock) (.slice Ao23 t217.length co23) t217) ∧ Aside0 (Below w.heap.size w wc))
                                        case first =>
                                          have H := HC69.out
                                          clear HC69
                                          by_cases c70 : 0 < (t213.length : Int)
                                          · rw [if_pos c70] at H
                                            have c70b0 : decide (0 < (t213.length : Int)) = true := decide_eq_true c70
                                            have c70b1 : decide (0 < t213.length) = true := decide_eq_true (by omega)
                                            clear c70
                                            (first | rw [c70b0] | (simp only [i64_w, i32_w]; rw [c70b0]) | skip)
                                            by_cases c71 : 1 < (t213.length : Int)
                                            · rw [if_pos c71] at H
                                              have c71b0 : decide (1 < (t213.length : Int)) = true := decide_eq_true c71
                                              have c71b1 : decide (1 < t213.length) = true := decide_eq_true (by omega)
                                              clear c71
                                              by_cases c72 : ((rd_T25 t213 0).f1) > ((rd_T25 t213 1).f0)
                                              · rw [if_pos c72] at H
                                                have c72b0 : decide (((rd_T25 t213 1).f0) < ((rd_T25 t213 0).f1)) = true := decide_eq_true c72
                                                clear c72
                                                have H' := Aside0.mk H
                                                clear H
                                                try go_wp2
                                                have n0_ := Aside0.mk (Kd.R_drew HO_9.out)
                                                have n1_ := Aside0.mk (Kd.R_drew HO_11.out)
                                                have n2_ := Aside0.mk (Kd.R_drew HO_12.out)
                                                have n3_ := Aside0.mk (below_drew1 HB.out)
                                                clear HO_9
                                                clear HO_11
                                                clear HO_12
                                                clear HB
                                                have HO_9 := n0_
                                                have HO_11 := n1_
                                                have HO_12 := n2_
                                                have HB := n3_
                                                clear n0_ n1_ n2_ n3_
                                                have p248 : 0 ≤ (0 : Int) := (by omega)
                                                have q248 : 0 < (t213.length : Int) := of_decide_eq_true (by first | (with_reducible assumption) | assumption)
                                                obtain ⟨ad248, e248, hx248_0, hx248_1, hx248_2⟩ := at_T25 (Kd.R_reads' HO_11.out).2.2 0 p248 q248
                                                obtain rfl : ad216 = ad248 := (by injection e248)
                                                have qi248 : (0 < t213.length) = True := eq_true (by omega)
                                                (try rw [show ((0 : Int)).toNat = 0 from rfl] at hx248_0)
                                                (try rw [show 0 * 3 = 0 from rfl] at hx248_0)
                                                (try rw [Addr.add_zero'] at hx248_0)
                                                (try rw [show ((0 : Int)).toNat = 0 from rfl] at hx248_1)
                                                (try rw [show 0 * 3 = 0 from rfl] at hx248_1)
                                                (try rw [Addr.add_zero'] at hx248_1)
                                                (try rw [show ((0 : Int)).toNat = 0 from rfl] at hx248_2)
                                                (try rw [show 0 * 3 = 0 from rfl] at hx248_2)
                                                (try rw [Addr.add_zero'] at hx248_2)
                                                replace p248 := eq_true p248
                                                replace q248 := eq_true q248
                                                have p249 : 0 ≤ (1 : Int) := (by omega)
                                                have q249 : 1 < (t213.length : Int) := of_decide_eq_true (by first | (with_reducible assumption) | assumption)
                                                obtain ⟨ad249, e249, hx249_0, hx249_1, hx249_2⟩ := at_T25 (Kd.R_reads' HO_11.out).2.2 1 p249 q249
                                                obtain rfl : ad216 = ad249 := (by injection e249)
                                                (try simp only [show (1 : Int).toNat = 1 from rfl, Nat.reduceMul, Nat.reduceEqDiff, Go.Addr.add, ↓reduceIte] at hx249_0)
                                                (try simp only [show (1 : Int).toNat = 1 from rfl, Nat.reduceMul, Nat.reduceEqDiff, Go.Addr.add, ↓reduceIte] at hx249_1)
                                                (try simp only [show (1 : Int).toNat = 1 from rfl, Nat.reduceMul, Nat.reduceEqDiff, Go.Addr.add, ↓reduceIte] at hx249_2)
                                                have qi249 : (1 < t213.length) = True := eq_true (by omega)
                                                (try rw [show ((1 : Int)).toNat = 1 from rfl] at hx249_0)
                                                (try rw [show 1 * 3 = 3 from rfl] at hx249_0)
                                                (try rw [show ((1 : Int)).toNat = 1 from rfl] at hx249_1)
                                                (try rw [show 1 * 3 = 3 from rfl] at hx249_1)
                                                (try rw [show ((1 : Int)).toNat = 1 from rfl] at hx249_2)
                                                (try rw [show 1 * 3 = 3 from rfl] at hx249_2)
                                                replace p249 := eq_true p249
                                                replace q249 := eq_true q249
                                                have p250 : 0 ≤ (1 : Int) := (by omega)
                                                have q250 : 1 < (t213.length : Int) := of_decide_eq_true (by first | (with_reducible assumption) | assumption)
                                                obtain ⟨ad250, e250, hx250_0, hx250_1, hx250_2⟩ := at_T25 (Kd.R_reads' HO_11.out).2.2 1 p250 q250
                                                obtain rfl : ad216 = ad250 := (by injection e250)
                                                (try simp only [show (1 : Int).toNat = 1 from rfl, Nat.reduceMul, Nat.reduceEqDiff, Go.Addr.add, ↓reduceIte] at hx250_0)
                                                (try simp only [show (1 : Int).toNat = 1 from rfl, Nat.reduceMul, Nat.reduceEqDiff, Go.Addr.add, ↓reduceIte] at hx250_1)
                                                (try simp only [show (1 : Int).toNat = 1 from rfl, Nat.reduceMul, Nat.reduceEqDiff, Go.Addr.add, ↓reduceIte] at hx250_2)
                                                have qi250 : (1 < t213.length) = True := eq_true (by omega)
                                                (try rw [show ((1 : Int)).toNat = 1 from rfl] at hx250_0)
                                                (try rw [show 1 * 3 = 3 from rfl] at hx250_0)
                                                (try rw [show ((1 : Int)).toNat = 1 from rfl] at hx250_1)
                                                (try rw [show 1 * 3 = 3 from rfl] at hx250_1)
                                                (try rw [show ((1 : Int)).toNat = 1 from rfl] at hx250_2)
                                                (try rw [show 1 * 3 = 3 from rfl] at hx250_2)
                                                replace p250 := eq_true p250
                                                replace q250 := eq_true q250
                                                have p251 : 0 ≤ (0 : Int) := (by omega)
                                                have q251 : 0 < (t213.length : Int) := of_decide_eq_true (by first | (with_reducible assumption) | assumption)
                                                obtain ⟨ad251, e251, hx251_0, hx251_1, hx251_2⟩ := at_T25 (Kd.R_reads' HO_11.out).2.2 0 p251 q251
                                                obtain rfl : ad216 = ad251 := (by injection e251)
                                                have qi251 : (0 < t213.length) = True := eq_true (by omega)
                                                (try rw [show ((0 : Int)).toNat = 0 from rfl] at hx251_0)
                                                (try rw [show 0 * 3 = 0 from rfl] at hx251_0)
                                                (try rw [Addr.add_zero'] at hx251_0)
                                                (try rw [show ((0 : Int)).toNat = 0 from rfl] at hx251_1)
                                                (try rw [show 0 * 3 = 0 from rfl] at hx251_1)
                                                (try rw [Addr.add_zero'] at hx251_1)
                                                (try rw [show ((0 : Int)).toNat = 0 from rfl] at hx251_2)
                                                (try rw [show 0 * 3 = 0 from rfl] at hx251_2)
                                                (try rw [Addr.add_zero'] at hx251_2)
                                                replace p251 := eq_true p251
                                                replace q251 := eq_true q251
                                                refine start_ (n := 20) (S := fun w' => w'.cell? ad216 = some (.int .i64 ((rd_T25 t213 0).f0)) ∧ w'.cell? ⟨ad216.block, ad216.off + 1, none⟩ = some (.int .i64 ((rd_T25 t213 0).f1)) ∧ w'.cell? ⟨ad216.block, ad216.off + 2, none⟩ = some (.int .i64 ((rd_T25 t213 0).f2)) ∧ w'.cell? ⟨ad216.block, ad216.off + 3, none⟩ = some (.int .i64 ((rd_T25 t213 1).f0)) ∧ w'.cell? ⟨ad216.block, ad216.off + 3 + 1, none⟩ = some (.int .i64 ((rd_T25 t213 1).f1)) ∧ w'.cell? ⟨ad216.block, ad216.off + 3 + 2, none⟩ = some (.int .i64 ((rd_T25 t213 1).f2)) ∧ w'.cell? ⟨ad216.block, ad216.off + 3, none⟩ = some (.int .i64 ((rd_T25 t213 1).f0)) ∧ w'.cell? ⟨ad216.block, ad216.off + 3 + 1, none⟩ = some (.int .i64 ((rd_T25 t213 1).f1)) ∧ w'.cell? ⟨ad216.block, ad216.off + 3 + 2, none⟩ = some (.int .i64 ((rd_T25 t213 1).f2)) ∧ w'.cell? ad216 = some (.int .i64 ((rd_T25 t213 0).f0)) ∧ w'.cell? ⟨ad216.block, ad216.off + 1, none⟩ = some (.int .i64 ((rd_T25 t213 0).f1)) ∧ w'.cell? ⟨ad216.block, ad216.off + 2, none⟩ = some (.int .i64 ((rd_T25 t213 0).f2))) (ds := []) #[false, false, false, false, false, false, false, false, false, false, false, false, false, false, false, false, false, false, false, false] (by kernel_rfl) rfl rfl ⟨hx248_0, hx248_1, hx248_2, hx249_0, hx249_1, hx249_2, hx250_0, hx250_1, hx250_2, hx251_0, hx251_1, hx251_2⟩ (fun hHeld => ?_); refine with_tabW airchecklaw15_TimelinePut.tab29 airchecklaw15_TimelinePut.bits29 (fun HT_ HW_ => ?_)
                                                generalize wc.drew = w73 at HO_9 HO_11 HO_12 HB hx248_0 hx248_1 hx248_2 hx249_0 hx249_1 hx249_2 hx250_0 hx250_1 hx250_2 hx251_0 hx251_1 hx251_2 hHeld ⊢
                                                refine pure_ (i := 0) (N := some 165) (v := ?_) (a' := ?_) #[true, false, false, false, false, false, false, false, false, false, false, false, false, false, false, false, false, false, false, false] rfl rfl (any_of HT_.out (by kernel_rfl)) (fun _ _ _ h => h) (Or.inl ⟨by rfl, ?_⟩) ?_ ?_
                                                rotate_left
                                                · intro w'
                                                  go_simp
                                                  with_reducible rfl
                                                rotate_left
                                                · simp only [Act.put, List.setIfInBounds_toArray, List.set_cons_zero, List.set_cons_succ, i64_w, i32_w]
                                                  rfl
                                                refine pure_ (i := 1) (N := some 166) (v := ?_) (a' := ?_) #[true, true, false, false, false, false, false, false, false, false, false, false, false, false, false, false, false, false, false, false] rfl rfl (any_of HT_.out (by kernel_rfl)) (fun _ _ _ h => h) (Or.inl ⟨by rfl, ?_⟩) ?_ ?_
                                                rotate_left
                                                · intro w'
                                                  go_simp
                                                  with_reducible rfl
                                                rotate_left
                                                · simp only [Act.put, List.setIfInBounds_toArray, List.set_cons_zero, List.set_cons_succ, i64_w, i32_w]
                                                  rfl
                                                refine pure_ (i := 2) (N := some 167) (v := ?_) (a' := ?_) #[true, true, true, false, false, false, false, false, false, false, false, false, false, false, false, false, false, false, false, false] rfl rfl (any_of HT_.out (by kernel_rfl)) (fun _ _ _ h => h) (Or.inl ⟨by rfl, ?_⟩) ?_ ?_
                                                rotate_left
                                                · intro w'
                                                  go_simp
                                                  with_reducible rfl
                                                rotate_left
                                                · simp only [Act.put, List.setIfInBounds_toArray, List.set_cons_zero, List.set_cons_succ, i64_w, i32_w]
                                                  rfl
                                                refine pure_ (i := 4) (N := some 169) (v := ?_) (a' := ?_) #[true, true, true, false, true, false, false, false, false, false, false, false, false, false, false, false, false, false, false, false] rfl rfl (any_of HT_.out (by kernel_rfl)) (fun _ _ _ h => h) (Or.inl ⟨by rfl, ?_⟩) ?_ ?_
                                                rotate_left
                                                · intro w'
                                                  go_simp
                                                  with_reducible rfl
                                                rotate_left
                                                · simp only [Act.put, List.setIfInBounds_toArray, List.set_cons_zero, List.set_cons_succ, i64_w, i32_w]
                                                  rfl
                                                refine pure_ (i := 5) (N := some 170) (v := ?_) (a' := ?_) #[true, true, true, false, true, true, false, false, false, false, false, false, false, false, false, false, false, false, false, false] rfl rfl (any_of HT_.out (by kernel_rfl)) (fun _ _ _ h => h) (Or.inl ⟨by rfl, ?_⟩) ?_ ?_
                                                rotate_left
                                                · intro w'
                                                  go_simp
                                                  with_reducible rfl
                                                rotate_left
                                                · simp only [Act.put, List.setIfInBounds_toArray, List.set_cons_zero, List.set_cons_succ, i64_w, i32_w]
                                                  rfl
                                                refine pure_ (i := 6) (N := some 171) (v := ?_) (a' := ?_) #[true, true, true, false, true, true, true, false, false, false, false, false, false, false, false, false, false, false, false, false] rfl rfl (any_of HT_.out (by kernel_rfl)) (fun _ _ _ h => h) (Or.inl ⟨by rfl, ?_⟩) ?_ ?_
                                                rotate_left
                                                · intro w'
                                                  go_simp
                                                  with_reducible rfl
                                                rotate_left
                                                · simp only [Act.put, List.setIfInBounds_toArray, List.set_cons_zero, List.set_cons_succ, i64_w, i32_w]
                                                  rfl
                                                refine take_ (i := 3) (N := some 168) (v := ?_) (a' := ?_) #[true, true, true, true, true, true, true, false, false, false, false, false, false, false, false, false, false, false, false, false] rfl rfl (take_ofW HT_.out HW_.out (by kernel_rfl)) (fun _ _ _ h => h) (Or.inl ⟨by rfl, ?_⟩) hHeld ?_ ?_
                                                rotate_left
                                                · rintro w' ⟨s0, s1, s2, s3, s4, s5, s6, s7, s8, s9, s10, s11⟩
                                                  go_simp
                                                  with_reducible rfl
                                                rotate_left
                                                · simp only [Act.put, List.setIfInBounds_toArray, List.set_cons_zero, List.set_cons_succ, i64_w, i32_w]
                                                  rfl
                                                refine take_ (i := 7) (N := some 172) (v := ?_) (a' := ?_) #[true, true, true, true, true, true, true, true, false, false, false, false, false, false, false, false, false, false, false, false] rfl rfl (take_ofW HT_.out HW_.out (by kernel_rfl)) (fun _ _ _ h => h) (Or.inl ⟨by rfl, ?_⟩) hHeld ?_ ?_
                                                rotate_left
                                                · rintro w' ⟨s0, s1, s2, s3, s4, s5, s6, s7, s8, s9, s10, s11⟩
                                                  go_simp
                                                  with_reducible rfl
                                                rotate_left
                                                · simp only [Act.put, List.setIfInBounds_toArray, List.set_cons_zero, List.set_cons_succ, i64_w, i32_w]
                                                  rfl
                                                refine pure_ (i := 8) (N := some 173) (v := ?_) (a' := ?_) #[true, true, true, true, true, true, true, true, true, false, false, false, false, false, false, false, false, false, false, false] rfl rfl (any_of HT_.out (by kernel_rfl)) (fun _ _ _ h => h) (Or.inl ⟨by rfl, ?_⟩) ?_ ?_
                                                rotate_left
                                                · intro w'
                                                  go_simp
                                                  with_reducible rfl
                                                rotate_left
                                                · simp only [Act.put, List.setIfInBounds_toArray, List.set_cons_zero, List.set_cons_succ, i64_w, i32_w]
                                                  rfl
                                                refine pure_ (i := 9) (N := some 174) (v := ?_) (a' := ?_) #[true, true, true, true, true, true, true, true, true, true, false, false, false, false, false, false, false, false, false, false] rfl rfl (any_of HT_.out (by kernel_rfl)) (fun _ _ _ h => h) (Or.inl ⟨by rfl, ?_⟩) ?_ ?_
                                                rotate_left
                                                · intro w'
                                                  go_simp
                                                  with_reducible rfl
                                                rotate_left
                                                · simp only [Act.put, List.setIfInBounds_toArray, List.set_cons_zero, List.set_cons_succ, i64_w, i32_w]
                                                  rfl
                                                refine pure_ (i := 10) (N := some 175) (v := ?_) (a' := ?_) #[true, true, true, true, true, true, true, true, true, true, true, false, false, false, false, false, false, false, false, false] rfl rfl (any_of HT_.out (by kernel_rfl)) (fun _ _ _ h => h) (Or.inl ⟨by rfl, ?_⟩) ?_ ?_
                                                rotate_left
                                                · intro w'
                                                  go_simp
                                                  with_reducible rfl
                                                rotate_left
                                                · simp only [Act.put, List.setIfInBounds_toArray, List.set_cons_zero, List.set_cons_succ, i64_w, i32_w]
                                                  rfl
                                                refine pure_ (i := 11) (N := some 176) (v := ?_) (a' := ?_) #[true, true, true, true, true, true, true, true, true, true, true, true, false, false, false, false, false, false, false, false] rfl rfl (any_of HT_.out (by kernel_rfl)) (fun _ _ _ h => h) (Or.inl ⟨by rfl, ?_⟩) ?_ ?_
                                                rotate_left
                                                · intro w'
                                                  go_simp
                                                  with_reducible rfl
                                                rotate_left
                                                · simp only [Act.put, List.setIfInBounds_toArray, List.set_cons_zero, List.set_cons_succ, i64_w, i32_w]
                                                  rfl
                                                refine pure_ (i := 12) (N := some 177) (v := ?_) (a' := ?_) #[true, true, true, true, true, true, true, true, true, true, true, true, true, false, false, false, false, false, false, false] rfl rfl (any_of HT_.out (by kernel_rfl)) (fun _ _ _ h => h) (Or.inl ⟨by rfl, ?_⟩) ?_ ?_
                                                rotate_left
                                                · intro w'
                                                  go_simp
                                                  with_reducible rfl
                                                rotate_left
                                                · simp only [Act.put, List.setIfInBounds_toArray, List.set_cons_zero, List.set_cons_succ, i64_w, i32_w]
                                                  rfl
                                                refine pure_ (i := 14) (N := some 179) (v := ?_) (a' := ?_) #[true, true, true, true, true, true, true, true, true, true, true, true, true, false, true, false, false, false, false, false] rfl rfl (any_of HT_.out (by kernel_rfl)) (fun _ _ _ h => h) (Or.inl ⟨by rfl, ?_⟩) ?_ ?_
                                                rotate_left
                                                · intro w'
                                                  go_simp
                                                  with_reducible rfl
                                                rotate_left
                                                · simp only [Act.put, List.setIfInBounds_toArray, List.set_cons_zero, List.set_cons_succ, i64_w, i32_w]
                                                  rfl
                                                refine pure_ (i := 15) (N := some 180) (v := ?_) (a' := ?_) #[true, true, true, true, true, true, true, true, true, true, true, true, true, false, true, true, false, false, false, false] rfl rfl (any_of HT_.out (by kernel_rfl)) (fun _ _ _ h => h) (Or.inl ⟨by rfl, ?_⟩) ?_ ?_
                                                rotate_left
                                                · intro w'
                                                  go_simp
                                                  with_reducible rfl
                                                rotate_left
                                                · simp only [Act.put, List.setIfInBounds_toArray, List.set_cons_zero, List.set_cons_succ, i64_w, i32_w]
                                                  rfl
                                                refine pure_ (i := 16) (N := some 181) (v := ?_) (a' := ?_) #[true, true, true, true, true, true, true, true, true, true, true, true, true, false, true, true, true, false, false, false] rfl rfl (any_of HT_.out (by kernel_rfl)) (fun _ _ _ h => h) (Or.inl ⟨by rfl, ?_⟩) ?_ ?_
                                                rotate_left
                                                · intro w'
                                                  go_simp
                                                  with_reducible rfl
                                                rotate_left
                                                · simp only [Act.put, List.setIfInBounds_toArray, List.set_cons_zero, List.set_cons_succ, i64_w, i32_w]
                                                  rfl
                                                refine take_ (i := 13) (N := some 178) (v := ?_) (a' := ?_) #[true, true, true, true, true, true, true, true, true, true, true, true, true, true, true, true, true, false, false, false] rfl rfl (take_ofW HT_.out HW_.out (by kernel_rfl)) (fun _ _ _ h => h) (Or.inl ⟨by rfl, ?_⟩) hHeld ?_ ?_
                                                rotate_left
                                                · rintro w' ⟨s0, s1, s2, s3, s4, s5, s6, s7, s8, s9, s10, s11⟩
                                                  go_simp
                                                  with_reducible rfl
                                                rotate_left
                                                · simp only [Act.put, List.setIfInBounds_toArray, List.set_cons_zero, List.set_cons_succ, i64_w, i32_w]
                                                  rfl
                                                refine take_ (i := 17) (N := some 182) (v := ?_) (a' := ?_) #[true, true, true, true, true, true, true, true, true, true, true, true, true, true, true, true, true, true, false, false] rfl rfl (take_ofW HT_.out HW_.out (by kernel_rfl)) (fun _ _ _ h => h) (Or.inl ⟨by rfl, ?_⟩) hHeld ?_ ?_
                                                rotate_left
                                                · rintro w' ⟨s0, s1, s2, s3, s4, s5, s6, s7, s8, s9, s10, s11⟩
                                                  go_simp
                                                  with_reducible rfl
                                                rotate_left
                                                · simp only [Act.put, List.setIfInBounds_toArray, List.set_cons_zero, List.set_cons_succ, i64_w, i32_w]
                                                  rfl
                                                refine pure_ (i := 18) (N := some 183) (v := ?_) (a' := ?_) #[true, true, true, true, true, true, true, true, true, true, true, true, true, true, true, true, true, true, true, false] rfl rfl (any_of HT_.out (by kernel_rfl)) (fun _ _ _ h => h) (Or.inl ⟨by rfl, ?_⟩) ?_ ?_
                                                rotate_left
                                                · intro w'
                                                  go_simp
                                                  with_reducible rfl
                                                rotate_left
                                                · simp only [Act.put, List.setIfInBounds_toArray, List.set_cons_zero, List.set_cons_succ, i64_w, i32_w]
                                                  rfl
                                                refine pure_ (i := 19) (N := some 184) (v := ?_) (a' := ?_) #[true, true, true, true, true, true, true, true, true, true, true, true, true, true, true, true, true, true, true, true] rfl rfl (any_of HT_.out (by kernel_rfl)) (fun _ _ _ h => h) (Or.inl ⟨by rfl, ?_⟩) ?_ ?_
                                                rotate_left
                                                · intro w'
                                                  go_simp
                                                  with_reducible rfl
                                                rotate_left
                                                · simp only [Act.put, List.setIfInBounds_toArray, List.set_cons_zero, List.set_cons_succ, i64_w, i32_w]
                                                  rfl
                                                refine done_ (done_of HT_.out (by kernel_rfl)) ?_
                                                try go_wp2
                                                go_meet
                                                case rel => exact ⟨_, (decide (((rd_T25 t213 1).f1) > ((rd_T25 t213 0).f0))), (by first | rfl | (simp; done) | (simp [*]; done)), H', ⟨by have := HJ12.out; have := HJ36.out; have := HJ41.out; have := HJ44.out; have := HK5.out; have := HJ62.out; first | omega | exact Nat.le_refl _⟩, ⟨by (with_reducible repeat (first | apply Kd.R_alloc | apply Kd.R_drewN | apply Kd.R_drew)); exact HO_9.out⟩, ⟨by (with_reducible repeat (first | apply Kd.R_alloc | apply Kd.R_drewN | apply Kd.R_drew)); exact HO_11.out⟩, ⟨by (with_reducible repeat (first | apply Kd.R_alloc | apply Kd.R_drewN | apply Kd.R_drew)); exact HO_12.out⟩, ⟨by repeat (first | (with_reducible first | exact HB.out | apply below_alloc | apply pw_below_drewN | apply below_drew1) | exact HB.out)⟩⟩
                                              · rw [if_neg c72] at H
                                                have c72b0 : decide (((rd_T25 t213 1).f0) < ((rd_T25 t213 0).f1)) = false := decide_eq_false c72
                                                clear c72
                                                have H' := Aside0.mk H
                                                clear H
                                                try go_wp2
                                                have n0_ := Aside0.mk (Kd.R_drew HO_9.out)
                                                have n1_ := Aside0.mk (Kd.R_drew HO_11.out)
                                                have n2_ := Aside0.mk (Kd.R_drew HO_12.out)
                                                have n3_ := Aside0.mk (below_drew1 HB.out)
                                                clear HO_9
                                                clear HO_11
                                                clear HO_12
                                                clear HB
                                                have HO_9 := n0_
                                                have HO_11 := n1_
                                                have HO_12 := n2_
                                                have HB := n3_
                                                clear n0_ n1_ n2_ n3_
                                                have p248 : 0 ≤ (0 : Int) := (by omega)
                                                have q248 : 0 < (t213.length : Int) := of_decide_eq_true (by first | (with_reducible assumption) | assumption)
                                                obtain ⟨ad248, e248, hx248_0, hx248_1, hx248_2⟩ := at_T25 (Kd.R_reads' HO_11.out).2.2 0 p248 q248
                                                obtain rfl : ad216 = ad248 := (by injection e248)
                                                have qi248 : (0 < t213.length) = True := eq_true (by omega)
                                                (try rw [show ((0 : Int)).toNat = 0 from rfl] at hx248_0)
                                                (try rw [show 0 * 3 = 0 from rfl] at hx248_0)
                                                (try rw [Addr.add_zero'] at hx248_0)
                                                (try rw [show ((0 : Int)).toNat = 0 from rfl] at hx248_1)
                                                (try rw [show 0 * 3 = 0 from rfl] at hx248_1)
                                                (try rw [Addr.add_zero'] at hx248_1)
                                                (try rw [show ((0 : Int)).toNat = 0 from rfl] at hx248_2)
                                                (try rw [show 0 * 3 = 0 from rfl] at hx248_2)
                                                (try rw [Addr.add_zero'] at hx248_2)
                                                replace p248 := eq_true p248
                                                replace q248 := eq_true q248
                                                have p249 : 0 ≤ (1 : Int) := (by omega)
                                                have q249 : 1 < (t213.length : Int) := of_decide_eq_true (by first | (with_reducible assumption) | assumption)
                                                obtain ⟨ad249, e249, hx249_0, hx249_1, hx249_2⟩ := at_T25 (Kd.R_reads' HO_11.out).2.2 1 p249 q249
                                                obtain rfl : ad216 = ad249 := (by injection e249)
                                                (try simp only [show (1 : Int).toNat = 1 from rfl, Nat.reduceMul, Nat.reduceEqDiff, Go.Addr.add, ↓reduceIte] at hx249_0)
                                                (try simp only [show (1 : Int).toNat = 1 from rfl, Nat.reduceMul, Nat.reduceEqDiff, Go.Addr.add, ↓reduceIte] at hx249_1)
                                                (try simp only [show (1 : Int).toNat = 1 from rfl, Nat.reduceMul, Nat.reduceEqDiff, Go.Addr.add, ↓reduceIte] at hx249_2)
                                                have qi249 : (1 < t213.length) = True := eq_true (by omega)
                                                (try rw [show ((1 : Int)).toNat = 1 from rfl] at hx249_0)
                                                (try rw [show 1 * 3 = 3 from rfl] at hx249_0)
                                                (try rw [show ((1 : Int)).toNat = 1 from rfl] at hx249_1)
                                                (try rw [show 1 * 3 = 3 from rfl] at hx249_1)
                                                (try rw [show ((1 : Int)).toNat = 1 from rfl] at hx249_2)
                                                (try rw [show 1 * 3 = 3 from rfl] at hx249_2)
                                                replace p249 := eq_true p249
                                                replace q249 := eq_true q249
                                                refine start_ (n := 20) (S := fun w' => w'.cell? ad216 = some (.int .i64 ((rd_T25 t213 0).f0)) ∧ w'.cell? ⟨ad216.block, ad216.off + 1, none⟩ = some (.int .i64 ((rd_T25 t213 0).f1)) ∧ w'.cell? ⟨ad216.block, ad216.off + 2, none⟩ = some (.int .i64 ((rd_T25 t213 0).f2)) ∧ w'.cell? ⟨ad216.block, ad216.off + 3, none⟩ = some (.int .i64 ((rd_T25 t213 1).f0)) ∧ w'.cell? ⟨ad216.block, ad216.off + 3 + 1, none⟩ = some (.int .i64 ((rd_T25 t213 1).f1)) ∧ w'.cell? ⟨ad216.block, ad216.off + 3 + 2, none⟩ = some (.int .i64 ((rd_T25 t213 1).f2))) (ds := []) #[false, false, false, false, false, false, false, false, false, false, false, false, false, false, false, false, false, false, false, false] (by kernel_rfl) rfl rfl ⟨hx248_0, hx248_1, hx248_2, hx249_0, hx249_1, hx249_2⟩ (fun hHeld => ?_); refine with_tabW airchecklaw15_TimelinePut.tab29 airchecklaw15_TimelinePut.bits29 (fun HT_ HW_ => ?_)
                                                generalize wc.drew = w74 at HO_9 HO_11 HO_12 HB hx248_0 hx248_1 hx248_2 hx249_0 hx249_1 hx249_2 hHeld ⊢
                                                refine pure_ (i := 0) (N := some 165) (v := ?_) (a' := ?_) #[true, false, false, false, false, false, false, false, false, false, false, false, false, false, false, false, false, false, false, false] rfl rfl (any_of HT_.out (by kernel_rfl)) (fun _ _ _ h => h) (Or.inl ⟨by rfl, ?_⟩) ?_ ?_
                                                rotate_left
                                                · intro w'
                                                  go_simp
                                                  with_reducible rfl
                                                rotate_left
                                                · simp only [Act.put, List.setIfInBounds_toArray, List.set_cons_zero, List.set_cons_succ, i64_w, i32_w]
                                                  rfl
                                                refine pure_ (i := 1) (N := some 166) (v := ?_) (a' := ?_) #[true, true, false, false, false, false, false, false, false, false, false, false, false, false, false, false, false, false, false, false] rfl rfl (any_of HT_.out (by kernel_rfl)) (fun _ _ _ h => h) (Or.inl ⟨by rfl, ?_⟩) ?_ ?_
                                                rotate_left
                                                · intro w'
                                                  go_simp
                                                  with_reducible rfl
                                                rotate_left
                                                · simp only [Act.put, List.setIfInBounds_toArray, List.set_cons_zero, List.set_cons_succ, i64_w, i32_w]
                                                  rfl
                                                refine pure_ (i := 2) (N := some 167) (v := ?_) (a' := ?_) #[true, true, true, false, false, false, false, false, false, false, false, false, false, false, false, false, false, false, false, false] rfl rfl (any_of HT_.out (by kernel_rfl)) (fun _ _ _ h => h) (Or.inl ⟨by rfl, ?_⟩) ?_ ?_
                                                rotate_left
                                                · intro w'
                                                  go_simp
                                                  with_reducible rfl
                                                rotate_left
                                                · simp only [Act.put, List.setIfInBounds_toArray, List.set_cons_zero, List.set_cons_succ, i64_w, i32_w]
                                                  rfl
                                                refine pure_ (i := 4) (N := some 169) (v := ?_) (a' := ?_) #[true, true, true, false, true, false, false, false, false, false, false, false, false, false, false, false, false, false, false, false] rfl rfl (any_of HT_.out (by kernel_rfl)) (fun _ _ _ h => h) (Or.inl ⟨by rfl, ?_⟩) ?_ ?_
                                                rotate_left
                                                · intro w'
                                                  go_simp
                                                  with_reducible rfl
                                                rotate_left
                                                · simp only [Act.put, List.setIfInBounds_toArray, List.set_cons_zero, List.set_cons_succ, i64_w, i32_w]
                                                  rfl
                                                refine pure_ (i := 5) (N := some 170) (v := ?_) (a' := ?_) #[true, true, true, false, true, true, false, false, false, false, false, false, false, false, false, false, false, false, false, false] rfl rfl (any_of HT_.out (by kernel_rfl)) (fun _ _ _ h => h) (Or.inl ⟨by rfl, ?_⟩) ?_ ?_
                                                rotate_left
                                                · intro w'
                                                  go_simp
                                                  with_reducible rfl
                                                rotate_left
                                                · simp only [Act.put, List.setIfInBounds_toArray, List.set_cons_zero, List.set_cons_succ, i64_w, i32_w]
                                                  rfl
                                                refine pure_ (i := 6) (N := some 171) (v := ?_) (a' := ?_) #[true, true, true, false, true, true, true, false, false, false, false, false, false, false, false, false, false, false, false, false] rfl rfl (any_of HT_.out (by kernel_rfl)) (fun _ _ _ h => h) (Or.inl ⟨by rfl, ?_⟩) ?_ ?_
                                                rotate_left
                                                · intro w'
                                                  go_simp
                                                  with_reducible rfl
                                                rotate_left
                                                · simp only [Act.put, List.setIfInBounds_toArray, List.set_cons_zero, List.set_cons_succ, i64_w, i32_w]
                                                  rfl
                                                refine take_ (i := 3) (N := some 168) (v := ?_) (a' := ?_) #[true, true, true, true, true, true, true, false, false, false, false, false, false, false, false, false, false, false, false, false] rfl rfl (take_ofW HT_.out HW_.out (by kernel_rfl)) (fun _ _ _ h => h) (Or.inl ⟨by rfl, ?_⟩) hHeld ?_ ?_
                                                rotate_left
                                                · rintro w' ⟨s0, s1, s2, s3, s4, s5⟩
                                                  go_simp
                                                  with_reducible rfl
                                                rotate_left
                                                · simp only [Act.put, List.setIfInBounds_toArray, List.set_cons_zero, List.set_cons_succ, i64_w, i32_w]
                                                  rfl
                                                refine take_ (i := 7) (N := some 172) (v := ?_) (a' := ?_) #[true, true, true, true, true, true, true, true, false, false, false, false, false, false, false, false, false, false, false, false] rfl rfl (take_ofW HT_.out HW_.out (by kernel_rfl)) (fun _ _ _ h => h) (Or.inl ⟨by rfl, ?_⟩) hHeld ?_ ?_
                                                rotate_left
                                                · rintro w' ⟨s0, s1, s2, s3, s4, s5⟩
                                                  go_simp
                                                  with_reducible rfl
                                                rotate_left
                                                · simp only [Act.put, List.setIfInBounds_toArray, List.set_cons_zero, List.set_cons_succ, i64_w, i32_w]
                                                  rfl
                                                refine pure_ (i := 8) (N := some 173) (v := ?_) (a' := ?_) #[true, true, true, true, true, true, true, true, true, false, false, false, false, false, false, false, false, false, false, false] rfl rfl (any_of HT_.out (by kernel_rfl)) (fun _ _ _ h => h) (Or.inl ⟨by rfl, ?_⟩) ?_ ?_
                                                rotate_left
                                                · intro w'
                                                  go_simp
                                                  with_reducible rfl
                                                rotate_left
                                                · simp only [Act.put, List.setIfInBounds_toArray, List.set_cons_zero, List.set_cons_succ, i64_w, i32_w]
                                                  rfl
                                                refine pure_ (i := 9) (N := some 174) (v := ?_) (a' := ?_) #[true, true, true, true, true, true, true, true, true, true, false, false, false, false, false, false, false, false, false, false] rfl rfl (any_of HT_.out (by kernel_rfl)) (fun _ _ _ h => h) (Or.inl ⟨by rfl, ?_⟩) ?_ ?_
                                                rotate_left
                                                · intro w'
                                                  go_simp
                                                  with_reducible rfl
                                                rotate_left
                                                · simp only [Act.put, List.setIfInBounds_toArray, List.set_cons_zero, List.set_cons_succ, i64_w, i32_w]
                                                  rfl
                                                refine pure_ (i := 10) (N := some 175) (v := undef) (a' := ?_) #[true, true, true, true, true, true, true, true, true, true, true, false, false, false, false, false, false, false, false, false] rfl rfl (any_of HT_.out (by kernel_rfl)) (fun _ _ _ h => h) (Or.inr ⟨by rfl, rfl⟩) ?_ ?_
                                                rotate_left
                                                · simp only [Act.put, List.setIfInBounds_toArray, List.set_cons_zero, List.set_cons_succ, i64_w, i32_w]
                                                  rfl
                                                refine pure_ (i := 11) (N := some 176) (v := undef) (a' := ?_) #[true, true, true, true, true, true, true, true, true, true, true, true, false, false, false, false, false, false, false, false] rfl rfl (any_of HT_.out (by kernel_rfl)) (fun _ _ _ h => h) (Or.inr ⟨by rfl, rfl⟩) ?_ ?_
                                                rotate_left
                                                · simp only [Act.put, List.setIfInBounds_toArray, List.set_cons_zero, List.set_cons_succ, i64_w, i32_w]
                                                  rfl
                                                refine pure_ (i := 12) (N := some 177) (v := undef) (a' := ?_) #[true, true, true, true, true, true, true, true, true, true, true, true, true, false, false, false, false, false, false, false] rfl rfl (any_of HT_.out (by kernel_rfl)) (fun _ _ _ h => h) (Or.inr ⟨by rfl, rfl⟩) ?_ ?_
                                                rotate_left
                                                · simp only [Act.put, List.setIfInBounds_toArray, List.set_cons_zero, List.set_cons_succ, i64_w, i32_w]
                                                  rfl
                                                refine pure_ (i := 13) (N := some 178) (v := undef) (a' := ?_) #[true, true, true, true, true, true, true, true, true, true, true, true, true, true, false, false, false, false, false, false] rfl rfl (any_of HT_.out (by kernel_rfl)) (fun _ _ _ h => h) (Or.inr ⟨by rfl, rfl⟩) ?_ ?_
                                                rotate_left
                                                · simp only [Act.put, List.setIfInBounds_toArray, List.set_cons_zero, List.set_cons_succ, i64_w, i32_w]
                                                  rfl
                                                refine pure_ (i := 14) (N := some 179) (v := undef) (a' := ?_) #[true, true, true, true, true, true, true, true, true, true, true, true, true, true, true, false, false, false, false, false] rfl rfl (any_of HT_.out (by kernel_rfl)) (fun _ _ _ h => h) (Or.inr ⟨by rfl, rfl⟩) ?_ ?_
                                                rotate_left
                                                · simp only [Act.put, List.setIfInBounds_toArray, List.set_cons_zero, List.set_cons_succ, i64_w, i32_w]
                                                  rfl
                                                refine pure_ (i := 15) (N := some 180) (v := undef) (a' := ?_) #[true, true, true, true, true, true, true, true, true, true, true, true, true, true, true, true, false, false, false, false] rfl rfl (any_of HT_.out (by kernel_rfl)) (fun _ _ _ h => h) (Or.inr ⟨by rfl, rfl⟩) ?_ ?_
                                                rotate_left
                                                · simp only [Act.put, List.setIfInBounds_toArray, List.set_cons_zero, List.set_cons_succ, i64_w, i32_w]
                                                  rfl
                                                refine pure_ (i := 16) (N := some 181) (v := undef) (a' := ?_) #[true, true, true, true, true, true, true, true, true, true, true, true, true, true, true, true, true, false, false, false] rfl rfl (any_of HT_.out (by kernel_rfl)) (fun _ _ _ h => h) (Or.inr ⟨by rfl, rfl⟩) ?_ ?_
                                                rotate_left
                                                · simp only [Act.put, List.setIfInBounds_toArray, List.set_cons_zero, List.set_cons_succ, i64_w, i32_w]
                                                  rfl
                                                refine pure_ (i := 17) (N := some 182) (v := undef) (a' := ?_) #[true, true, true, true, true, true, true, true, true, true, true, true, true, true, true, true, true, true, false, false] rfl rfl (any_of HT_.out (by kernel_rfl)) (fun _ _ _ h => h) (Or.inr ⟨by rfl, rfl⟩) ?_ ?_
                                                rotate_left
                                                · simp only [Act.put, List.setIfInBounds_toArray, List.set_cons_zero, List.set_cons_succ, i64_w, i32_w]
                                                  rfl
                                                refine pure_ (i := 18) (N := some 183) (v := undef) (a' := ?_) #[true, true, true, true, true, true, true, true, true, true, true, true, true, true, true, true, true, true, true, false] rfl rfl (any_of HT_.out (by kernel_rfl)) (fun _ _ _ h => h) (Or.inr ⟨by rfl, rfl⟩) ?_ ?_
                                                rotate_left
                                                · simp only [Act.put, List.setIfInBounds_toArray, List.set_cons_zero, List.set_cons_succ, i64_w, i32_w]
                                                  rfl
                                                refine pure_ (i := 19) (N := some 184) (v := ?_) (a' := ?_) #[true, true, true, true, true, true, true, true, true, true, true, true, true, true, true, true, true, true, true, true] rfl rfl (any_of HT_.out (by kernel_rfl)) (fun _ _ _ h => h) (Or.inl ⟨by rfl, ?_⟩) ?_ ?_
                                                rotate_left
                                                · intro w'
                                                  go_simp
                                                  with_reducible rfl
                                                rotate_left
                                                · simp only [Act.put, List.setIfInBounds_toArray, List.set_cons_zero, List.set_cons_succ, i64_w, i32_w]
                                                  rfl
                                                refine done_ (done_of HT_.out (by kernel_rfl)) ?_
                                                try go_wp2
                                                go_meet
                                                case rel => exact ⟨_, (false), (by first | rfl | (simp; done) | (simp [*]; done)), H', ⟨by have := HJ12.out; have := HJ36.out; have := HJ41.out; have := HJ44.out; have := HK5.out; have := HJ62.out; first | omega | exact Nat.le_refl _⟩, ⟨by (with_reducible repeat (first | apply Kd.R_alloc | apply Kd.R_drewN | apply Kd.R_drew)); exact HO_9.out⟩, ⟨by (with_reducible repeat (first | apply Kd.R_alloc | apply Kd.R_drewN | apply Kd.R_drew)); exact HO_11.out⟩, ⟨by (with_reducible repeat (first | apply Kd.R_alloc | apply Kd.R_drewN | apply Kd.R_drew)); exact HO_12.out⟩, ⟨by repeat (first | (with_reducible first | exact HB.out | apply below_alloc | apply pw_below_drewN | apply below_drew1) | exact HB.out)⟩⟩
                                            · rw [if_neg c71] at H
                                              exact absurd H (by simp)
                                          · rw [if_neg c70] at H
                                            exact absurd H (by simp)
                                        case rest => as_aux_lemma =>
                                          clear HC69
                                          try clear c1
                                          try clear c2
                                          try clear p2
                                          try clear q2
                                          try clear hx2
                                          try clear qi2
                                          try clear c3
                                          try clear c4
                                          try clear c5
                                          try clear c6
                                          try clear p6
                                          try clear c7
                                          try clear c10
                                          try clear c10b0
                                          try clear c10b1
                                          try clear c11
                                          try clear c12
                                          try clear c13
                                          try clear c20
                                          try clear p21
                                          try clear q21
                                          try clear hx21
                                          try clear qi21
                                          try clear p22
                                          try clear q22
                                          try clear hx22
                                          try clear qi22
                                          try clear p23
                                          try clear q23
                                          try clear hx23
                                          try clear qi23
                                          try clear p24
                                          try clear q24
                                          try clear hx24
                                          try clear qi24
                                          try clear c25
                                          try clear c25b0
                                          try clear c25b1
                                          try clear p25
                                          try clear q25
                                          try clear hx25
                                          try clear qi25
                                          try clear c26
                                          try clear c26b0
                                          try clear c26b1
                                          try clear c27
                                          try clear c28
                                          try clear c33
                                          try clear c40
                                          try clear c40b0
                                          try clear c40b1
                                          try clear c41
                                          try clear c41b0
                                          try clear c43
                                          try clear c44
                                          try clear c44b0
                                          try clear c44b1
                                          try clear c46
                                          try clear c46b0
                                          try clear c46b1
                                          try clear c47
                                          try clear c47b0
                                          try clear c47b1
                                          try clear c48
                                          try clear c49
                                          try clear c49b0
                                          try clear c49b1
                                          try clear c53
                                          try clear c53b0
                                          try clear c54
                                          try clear c54b0
                                          try clear c56
                                          try clear c56b0
                                          try clear c56b1
                                          try clear p64
                                          try clear c65
                                          try clear c65b0
                                          try clear c65b1
                                          try clear c68
                                          try clear c70
                                          try clear c70b0
                                          try clear c70b1
                                          try clear c71
                                          try clear c71b0
                                          try clear c71b1
                                          try clear c72
                                          try clear c72b0
                                          try clear hx216_0
                                          try clear hx216_1
                                          try clear hx216_2
                                          try clear hx221_0
                                          try clear hx221_1
                                          try clear hx221_2
                                          try clear hx233_0
                                          try clear hx233_1
                                          try clear hx233_2
                                          try clear hx234_0
                                          try clear hx234_1
                                          try clear hx234_2
                                          try clear hx235_0
                                          try clear hx235_1
                                          try clear hx235_2
                                          try clear hx236_0
                                          try clear hx236_1
                                          try clear hx236_2
                                          try clear hx237_0
                                          try clear hx237_1
                                          try clear hx237_2
                                          try clear hx242_0
                                          try clear hx242_1
                                          try clear hx242_2
                                          try clear hx248_0
                                          try clear hx248_1
                                          try clear hx248_2
                                          try clear hx249_0
                                          try clear hx249_1
                                          try clear hx249_2
                                          try clear hx250_0
                                          try clear hx250_1
                                          try clear hx250_2
                                          try clear hx251_0
                                          try clear hx251_1
                                          try clear hx251_2
                                          try clear p2
                                          try clear p21
                                          try clear p216
                                          try clear p22
                                          try clear p221
                                          try clear p23
                                          try clear p233
                                          try clear p234
                                          try clear p235
                                          try clear p236
                                          try clear p237
                                          try clear p24
                                          try clear p242
                                          try clear p248
                                          try clear p249
                                          try clear p250
                                          try clear p251
                                          try clear p6
                                          try clear p64
                                          try clear q2
                                          try clear q21
                                          try clear q216
                                          try clear q22
                                          try clear q221
                                          try clear q23
                                          try clear q233
                                          try clear q234
                                          try clear q235
                                          try clear q236
                                          try clear q237
                                          try clear q24
                                          try clear q242
                                          try clear q248
                                          try clear q249
                                          try clear q250
                                          try clear q251
                                          obtain ⟨kq, x184_68, rfl, HA, HJ68, HO_9, HO_11, HO_12, HB⟩ := hcut
                                          cases kq with
                                          | zero => exact absurd HA.out (by simp [airchecklaw15_TimelinePut.j6])
                                          | succ kj68 =>
                                            have H := HA.out
                                            clear HA
                                            simp only [airchecklaw15_TimelinePut.j6] at H
                                            by_cases c75 : x184_68 = true
                                            · subst c75
                                              have H1 : (some true) = some r := by rw [if_pos rfl] at H; exact H
                                              clear H
                                              have H := H1
                                              clear H1
                                              obtain rfl := Option.some.inj H
                                              go_wp2
                                              go_ret
                                              exact ⟨by first | rfl | (simp [errW_none, errW_some] <;> rfl) | (simp [*, errW_none, errW_some] <;> rfl), by repeat (first | (with_reducible first | exact HB.out | apply below_alloc | apply pw_below_drewN | apply below_drew1) | exact HB.out)⟩
                                            · replace c75 := Bool.eq_false_iff.mpr c75
                                              subst c75
                                              have H1 : (if 1 < (t213.length : Int) then ((timeline_Put.f t217 ((rd_T25 t213 1).f0) ((rd_T25 t213 1).f1) ((rd_T25 t213 1).f2)).bind fun bt253 => ((timeline_Put.f t209 ((rd_T25 t213 1).f0) ((rd_T25 t213 1).f1) ((rd_T25 t213 1).f2)).bind fun bt258 => (if 0 < (t213.length : Int) then ((timeline_Put.f bt258.1 ((rd_T25 t213 0).f0) ((rd_T25 t213 0).f1) ((rd_T25 t213 0).f2)).bind fun bt263 => (if bt253.2 = 0 then (if bt258.2 = 0 then (if bt263.2 = 0 then ((aircheckref15_Same.f kj68 bt253.1 bt263.1).bind fun t267 => (some t267)) else (some false)) else (some false)) else (some false))) else (none)))) else (none)) = some r := by rw [if_neg (show ¬ (false = true) by decide)] at H; exact H
                                              clear H
                                              have H := H1
                                              clear H1
                                              by_cases c76 : 1 < (t213.length : Int)
                                              · rw [if_pos c76] at H
                                                have c76b0 : decide (1 < (t213.length : Int)) = true := decide_eq_true c76
                                                have c76b1 : decide (1 < t213.length) = true := decide_eq_true (by omega)
                                                clear c76
                                                replace H := Option.bind_eq_some_iff.mp H
                                                obtain ⟨⟨t253, t256⟩, A770, H⟩ := H
                                                replace H : ((timeline_Put.f t209 ((rd_T25 t213 1).f0) ((rd_T25 t213 1).f1) ((rd_T25 t213 1).f2)).bind fun bt258 => (if 0 < (t213.length : Int) then ((timeline_Put.f bt258.1 ((rd_T25 t213 0).f0) ((rd_T25 t213 0).f1) ((rd_T25 t213 0).f2)).bind fun bt263 => (if t256 = 0 then (if bt258.2 = 0 then (if bt263.2 = 0 then ((aircheckref15_Same.f kj68 t253 bt263.1).bind fun t267 => (some t267)) else (some false)) else (some false)) else (some false))) else (none))) = some r := H
                                                have A77 := Aside0.mk A770
                                                clear A770
                                                replace H := Option.bind_eq_some_iff.mp H
                                                obtain ⟨⟨t258, t261⟩, A780, H⟩ := H
                                                replace H : (if 0 < (t213.length : Int) then ((timeline_Put.f t258 ((rd_T25 t213 0).f0) ((rd_T25 t213 0).f1) ((rd_T25 t213 0).f2)).bind fun bt263 => (if t256 = 0 then (if t261 = 0 then (if bt263.2 = 0 then ((aircheckref15_Same.f kj68 t253 bt263.1).bind fun t267 => (some t267)) else (some false)) else (some false)) else (some false))) else (none)) = some r := H
                                                have A78 := Aside0.mk A780
                                                clear A780
                                                by_cases c79 : 0 < (t213.length : Int)
                                                · rw [if_pos c79] at H
                                                  have c79b0 : decide (0 < (t213.length : Int)) = true := decide_eq_true c79
                                                  have c79b1 : decide (0 < t213.length) = true := decide_eq_true (by omega)
                                                  clear c79
                                                  replace H := Option.bind_eq_some_iff.mp H
                                                  obtain ⟨⟨t263, t266⟩, A800, H⟩ := H
                                                  replace H : (if t256 = 0 then (if t261 = 0 then (if t266 = 0 then ((aircheckref15_Same.f kj68 t253 t263).bind fun t267 => (some t267)) else (some false)) else (some false)) else (some false)) = some r := H
                                                  have A80 := Aside0.mk A800
                                                  clear A800
                                                  by_cases c81 : t256 = 0
                                                  · rw [if_pos c81] at H
                                                    have c81b0 : (t256 == 0) = true := beq_iff_eq.mpr c81
                                                    have c81b1 : (t256 != 0) = false := bne_eq_false_iff_eq.mpr c81
                                                    clear c81
                                                    by_cases c82 : t261 = 0
                                                    · rw [if_pos c82] at H
                                                      have c82b0 : (t261 == 0) = true := beq_iff_eq.mpr c82
                                                      have c82b1 : (t261 != 0) = false := bne_eq_false_iff_eq.mpr c82
                                                      clear c82
                                                      by_cases c83 : t266 = 0
                                                      · rw [if_pos c83] at H
                                                        have c83b0 : (t266 == 0) = true := beq_iff_eq.mpr c83
                                                        have c83b1 : (t266 != 0) = false := bne_eq_false_iff_eq.mpr c83
                                                        clear c83
                                                        replace H := Option.bind_eq_some_iff.mp H
                                                        obtain ⟨t267, A840, H⟩ := H
                                                        replace H : (some t267) = some r := H
                                                        have A84 := Aside0.mk A840
                                                        clear A840
                                                        obtain rfl := Option.some.inj H
                                                        have p252 : 0 ≤ (1 : Int) := (by omega)
                                                        have q252 : 1 < (t213.length : Int) := of_decide_eq_true (by first | (with_reducible assumption) | assumption)
                                                        obtain ⟨ad252, e252, hx252_0, hx252_1, hx252_2⟩ := at_T25 (Kd.R_reads' HO_11.out).2.2 1 p252 q252
                                                        obtain rfl : ad216 = ad252 := (by injection e252)
                                                        (try simp only [show (1 : Int).toNat = 1 from rfl, Nat.reduceMul, Nat.reduceEqDiff, Go.Addr.add, ↓reduceIte] at hx252_0)
                                                        (try simp only [show (1 : Int).toNat = 1 from rfl, Nat.reduceMul, Nat.reduceEqDiff, Go.Addr.add, ↓reduceIte] at hx252_1)
                                                        (try simp only [show (1 : Int).toNat = 1 from rfl, Nat.reduceMul, Nat.reduceEqDiff, Go.Addr.add, ↓reduceIte] at hx252_2)
                                                        have qi252 : (1 < t213.length) = True := eq_true (by omega)
                                                        (try rw [show ((1 : Int)).toNat = 1 from rfl] at hx252_0)
                                                        (try rw [show 1 * 3 = 3 from rfl] at hx252_0)
                                                        (try rw [show ((1 : Int)).toNat = 1 from rfl] at hx252_1)
                                                        (try rw [show 1 * 3 = 3 from rfl] at hx252_1)
                                                        (try rw [show ((1 : Int)).toNat = 1 from rfl] at hx252_2)
                                                        (try rw [show 1 * 3 = 3 from rfl] at hx252_2)
                                                        replace p252 := eq_true p252
                                                        replace q252 := eq_true q252
                                                        go_wp2_with (first | ((with_reducible refine gate_callee (f := 25) rfl ?_); refine goesL_ (some 190) rfl rfl Try.func25 (by kernel_rfl) rfl #[.slice Ao23 t217.length co23, .agg #[.int .i64 ((rd_T25 t213 1).f0), .int .i64 ((rd_T25 t213 1).f1), .int .i64 ((rd_T25 t213 1).f2)]] rfl (by (try simp only [List.map_toArray, List.map_cons, List.map_nil]); first | done | rfl | (simp only [List.length_drop, List.length_take]; rfl)) ?_; (with_reducible refine (timeline_Put.calls _ _ t217 ((rd_T25 t213 1).f0) ((rd_T25 t213 1).f1) ((rd_T25 t213 1).f2) t253 t256 _ ?side1 ?side2 A77.out).mono ?_); (case side1 => repeat (first | exact (Kd.R_reads' HO_12.out).2.2 | (with_reducible refine Kd.C_alloc ?_ _) | (with_reducible refine Kd.C_drewN ?_ _) | (with_reducible refine Kd.C_drew ?_))); (case side2 => exact (Kd.R_reads' HO_12.out).2.1); rintro e w85 ⟨v254, rfl, ho0, hb⟩; refine ⟨_, rfl, ?_⟩; have n0_ := Aside0.mk (Kd.R_elder' (by (with_reducible repeat (first | apply Kd.R_alloc | apply Kd.R_drewN | apply Kd.R_drew)); exact HO_9.out) (Kd.R_base ho0) hb); have n1_ := Aside0.mk (Kd.R_elder' (by (with_reducible repeat (first | apply Kd.R_alloc | apply Kd.R_drewN | apply Kd.R_drew)); exact HO_11.out) (Kd.R_base ho0) hb); have n2_ := Aside0.mk (Kd.R_elder' (by (with_reducible repeat (first | apply Kd.R_alloc | apply Kd.R_drewN | apply Kd.R_drew)); exact HO_12.out) (Kd.R_base ho0) hb); have n3_ := Aside0.mk (Kd.R_lower (Kd.R_new' (Kd.R_new' (Kd.R_new' ho0 (Kd.R_lt (by (with_reducible repeat (first | apply Kd.R_alloc | apply Kd.R_drewN | apply Kd.R_drew)); exact HO_9.out))) (Kd.R_lt (by (with_reducible repeat (first | apply Kd.R_alloc | apply Kd.R_drewN | apply Kd.R_drew)); exact HO_11.out))) (Kd.R_lt (by (with_reducible repeat (first | apply Kd.R_alloc | apply Kd.R_drewN | apply Kd.R_drew)); exact HO_12.out))) (below_size (by repeat (first | (with_reducible first | exact HB.out | apply below_alloc | apply pw_below_drewN | apply below_drew1) | exact HB.out)))); have n4_ := Aside0.mk (below_step (by repeat (first | (with_reducible first | exact HB.out | apply below_alloc | apply pw_below_drewN | apply below_drew1) | exact HB.out)) hb); clear HO_9; clear HO_11; clear HO_12; clear HB; have HO_9 := n0_; have HO_11 := n1_; have HO_12 := n2_; have HO255 := n3_; have HB := n4_; clear n0_ n1_ n2_ n3_ n4_; (try clear hb); (try clear hb2); (try clear hk); (try clear hi); (try clear ho0); have p257 : 0 ≤ (1 : Int) := (by omega); have q257 : 1 < (t213.length : Int) := of_decide_eq_true (by first | (with_reducible assumption) | assumption); obtain ⟨ad257, e257, hx257_0, hx257_1, hx257_2⟩ := at_T25 (Kd.R_reads' HO_11.out).2.2 1 p257 q257; obtain rfl : ad216 = ad257 := (by injection e257); (try simp only [show (1 : Int).toNat = 1 from rfl, Nat.reduceMul, Nat.reduceEqDiff, Go.Addr.add, ↓reduceIte] at hx257_0); (try simp only [show (1 : Int).toNat = 1 from rfl, Nat.reduceMul, Nat.reduceEqDiff, Go.Addr.add, ↓reduceIte] at hx257_1); (try simp only [show (1 : Int).toNat = 1 from rfl, Nat.reduceMul, Nat.reduceEqDiff, Go.Addr.add, ↓reduceIte] at hx257_2); have qi257 : (1 < t213.length) = True := eq_true (by omega); (try rw [show ((1 : Int)).toNat = 1 from rfl] at hx257_0); (try rw [show 1 * 3 = 3 from rfl] at hx257_0); (try rw [show ((1 : Int)).toNat = 1 from rfl] at hx257_1); (try rw [show 1 * 3 = 3 from rfl] at hx257_1); (try rw [show ((1 : Int)).toNat = 1 from rfl] at hx257_2); (try rw [show 1 * 3 = 3 from rfl] at hx257_2); replace p257 := eq_true p257; replace q257 := eq_true q257) | ((with_reducible refine gate_callee (f := 25) rfl ?_); refine goesL_ (some 198) rfl rfl Try.func25 (by kernel_rfl) rfl #[.slice Ao21 t209.length co21, .agg #[.int .i64 ((rd_T25 t213 1).f0), .int .i64 ((rd_T25 t213 1).f1), .int .i64 ((rd_T25 t213 1).f2)]] rfl (by (try simp only [List.map_toArray, List.map_cons, List.map_nil]); first | done | rfl | (simp only [List.length_drop, List.length_take]; rfl)) ?_; (with_reducible refine (timeline_Put.calls _ _ t209 ((rd_T25 t213 1).f0) ((rd_T25 t213 1).f1) ((rd_T25 t213 1).f2) t258 t261 _ ?side1 ?side2 A78.out).mono ?_); (case side1 => repeat (first | exact (Kd.R_reads' HO_9.out).2.2 | (with_reducible refine Kd.C_alloc ?_ _) | (with_reducible refine Kd.C_drewN ?_ _) | (with_reducible refine Kd.C_drew ?_))); (case side2 => exact (Kd.R_reads' HO_9.out).2.1); rintro e w86 ⟨v259, rfl, ho0, hb⟩; refine ⟨_, rfl, ?_⟩; have n0_ := Aside0.mk (Kd.R_elder' (by (with_reducible repeat (first | apply Kd.R_alloc | apply Kd.R_drewN | apply Kd.R_drew)); exact HO_9.out) (Kd.R_base ho0) hb); have n1_ := Aside0.mk (Kd.R_elder' (by (with_reducible repeat (first | apply Kd.R_alloc | apply Kd.R_drewN | apply Kd.R_drew)); exact HO_11.out) (Kd.R_base ho0) hb); have n2_ := Aside0.mk (Kd.R_elder' (by (with_reducible repeat (first | apply Kd.R_alloc | apply Kd.R_drewN | apply Kd.R_drew)); exact HO_12.out) (Kd.R_base ho0) hb); have n3_ := Aside0.mk (Kd.R_elder' (by (with_reducible repeat (first | apply Kd.R_alloc | apply Kd.R_drewN | apply Kd.R_drew)); exact HO255.out) (Kd.R_base ho0) hb); have n4_ := Aside0.mk (Kd.R_lower (Kd.R_new' (Kd.R_new' (Kd.R_new' (Kd.R_new' ho0 (Kd.R_lt (by (with_reducible repeat (first | apply Kd.R_alloc | apply Kd.R_drewN | apply Kd.R_drew)); exact HO_9.out))) (Kd.R_lt (by (with_reducible repeat (first | apply Kd.R_alloc | apply Kd.R_drewN | apply Kd.R_drew)); exact HO_11.out))) (Kd.R_lt (by (with_reducible repeat (first | apply Kd.R_alloc | apply Kd.R_drewN | apply Kd.R_drew)); exact HO_12.out))) (Kd.R_lt (by (with_reducible repeat (first | apply Kd.R_alloc | apply Kd.R_drewN | apply Kd.R_drew)); exact HO255.out))) (below_size (by repeat (first | (with_reducible first | exact HB.out | apply below_alloc | apply pw_below_drewN | apply below_drew1) | exact HB.out)))); have n5_ := Aside0.mk (below_step (by repeat (first | (with_reducible first | exact HB.out | apply below_alloc | apply pw_below_drewN | apply below_drew1) | exact HB.out)) hb); clear HO_9; clear HO_11; clear HO_12; clear HO255; clear HB; have HO_9 := n0_; have HO_11 := n1_; have HO_12 := n2_; have HO255 := n3_; have HO260 := n4_; have HB := n5_; clear n0_ n1_ n2_ n3_ n4_ n5_; (try clear hb); (try clear hb2); (try clear hk); (try clear hi); (try clear ho0); have p262 : 0 ≤ (0 : Int) := (by omega); have q262 : 0 < (t213.length : Int) := of_decide_eq_true (by first | (with_reducible assumption) | assumption); obtain ⟨ad262, e262, hx262_0, hx262_1, hx262_2⟩ := at_T25 (Kd.R_reads' HO_11.out).2.2 0 p262 q262; obtain rfl : ad216 = ad262 := (by injection e262); have qi262 : (0 < t213.length) = True := eq_true (by omega); (try rw [show ((0 : Int)).toNat = 0 from rfl] at hx262_0); (try rw [show 0 * 3 = 0 from rfl] at hx262_0); (try rw [Addr.add_zero'] at hx262_0); (try rw [show ((0 : Int)).toNat = 0 from rfl] at hx262_1); (try rw [show 0 * 3 = 0 from rfl] at hx262_1); (try rw [Addr.add_zero'] at hx262_1); (try rw [show ((0 : Int)).toNat = 0 from rfl] at hx262_2); (try rw [show 0 * 3 = 0 from rfl] at hx262_2); (try rw [Addr.add_zero'] at hx262_2); replace p262 := eq_true p262; replace q262 := eq_true q262; obtain ⟨Ao87, co87, eo87⟩ := Kd.R_slice HO260.out; subst eo87) | ((with_reducible refine gate_callee (f := 25) rfl ?_); refine goesL_ (some 206) rfl rfl Try.func25 (by kernel_rfl) rfl #[.slice Ao87 t258.length co87, .agg #[.int .i64 ((rd_T25 t213 0).f0), .int .i64 ((rd_T25 t213 0).f1), .int .i64 ((rd_T25 t213 0).f2)]] rfl (by (try simp only [List.map_toArray, List.map_cons, List.map_nil]); first | done | rfl | (simp only [List.length_drop, List.length_take]; rfl)) ?_; (with_reducible refine (timeline_Put.calls _ _ t258 ((rd_T25 t213 0).f0) ((rd_T25 t213 0).f1) ((rd_T25 t213 0).f2) t263 t266 _ ?side1 ?side2 A80.out).mono ?_); (case side1 => repeat (first | exact (Kd.R_reads' HO260.out).2.2 | (with_reducible refine Kd.C_alloc ?_ _) | (with_reducible refine Kd.C_drewN ?_ _) | (with_reducible refine Kd.C_drew ?_))); (case side2 => exact (Kd.R_reads' HO260.out).2.1); rintro e w88 ⟨v264, rfl, ho0, hb⟩; refine ⟨_, rfl, ?_⟩; have n0_ := Aside0.mk (Kd.R_elder' (by (with_reducible repeat (first | apply Kd.R_alloc | apply Kd.R_drewN | apply Kd.R_drew)); exact HO_9.out) (Kd.R_base ho0) hb); have n1_ := Aside0.mk (Kd.R_elder' (by (with_reducible repeat (first | apply Kd.R_alloc | apply Kd.R_drewN | apply Kd.R_drew)); exact HO_11.out) (Kd.R_base ho0) hb); have n2_ := Aside0.mk (Kd.R_elder' (by (with_reducible repeat (first | apply Kd.R_alloc | apply Kd.R_drewN | apply Kd.R_drew)); exact HO_12.out) (Kd.R_base ho0) hb); have n3_ := Aside0.mk (Kd.R_elder' (by (with_reducible repeat (first | apply Kd.R_alloc | apply Kd.R_drewN | apply Kd.R_drew)); exact HO255.out) (Kd.R_base ho0) hb); have n4_ := Aside0.mk (Kd.R_elder' (by (with_reducible repeat (first | apply Kd.R_alloc | apply Kd.R_drewN | apply Kd.R_drew)); exact HO260.out) (Kd.R_base ho0) hb); have n5_ := Aside0.mk (Kd.R_lower (Kd.R_new' (Kd.R_new' (Kd.R_new' (Kd.R_new' (Kd.R_new' ho0 (Kd.R_lt (by (with_reducible repeat (first | apply Kd.R_alloc | apply Kd.R_drewN | apply Kd.R_drew)); exact HO_9.out))) (Kd.R_lt (by (with_reducible repeat (first | apply Kd.R_alloc | apply Kd.R_drewN | apply Kd.R_drew)); exact HO_11.out))) (Kd.R_lt (by (with_reducible repeat (first | apply Kd.R_alloc | apply Kd.R_drewN | apply Kd.R_drew)); exact HO_12.out))) (Kd.R_lt (by (with_reducible repeat (first | apply Kd.R_alloc | apply Kd.R_drewN | apply Kd.R_drew)); exact HO255.out))) (Kd.R_lt (by (with_reducible repeat (first | apply Kd.R_alloc | apply Kd.R_drewN | apply Kd.R_drew)); exact HO260.out))) (below_size (by repeat (first | (with_reducible first | exact HB.out | apply below_alloc | apply pw_below_drewN | apply below_drew1) | exact HB.out)))); have n6_ := Aside0.mk (below_step (by repeat (first | (with_reducible first | exact HB.out | apply below_alloc | apply pw_below_drewN | apply below_drew1) | exact HB.out)) hb); clear HO_9; clear HO_11; clear HO_12; clear HO255; clear HO260; clear HB; have HO_9 := n0_; have HO_11 := n1_; have HO_12 := n2_; have HO255 := n3_; have HO260 := n4_; have HO265 := n5_; have HB := n6_; clear n0_ n1_ n2_ n3_ n4_ n5_ n6_; (try clear hb); (try clear hb2); (try clear hk); (try clear hi); (try clear ho0); obtain ⟨Ao89, co89, eo89⟩ := Kd.R_slice HO255.out; subst eo89; obtain ⟨Ao90, co90, eo90⟩ := Kd.R_slice HO265.out; subst eo90) | (go_at_call 24; (with_reducible refine (aircheckref15_Same.calls kj68 _ _ t253 _ _ t263 t267 _ ?side1 ?side2 ?side3 ?side4 A84.out).mono ?_); (case side1 => repeat (first | exact (Kd.R_reads' HO255.out).2.2 | (with_reducible refine Kd.C_alloc ?_ _) | (with_reducible refine Kd.C_drewN ?_ _) | (with_reducible refine Kd.C_drew ?_))); (case side2 => exact (Kd.R_reads' HO255.out).2.1); (case side3 => repeat (first | exact (Kd.R_reads' HO265.out).2.2 | (with_reducible refine Kd.C_alloc ?_ _) | (with_reducible refine Kd.C_drewN ?_ _) | (with_reducible refine Kd.C_drew ?_))); (case side4 => exact (Kd.R_reads' HO265.out).2.1); rintro e w' ⟨rfl, ⟨nd, rfl⟩⟩))
                                                        go_ret
                                                        exact ⟨by first | rfl | (simp [errW_none, errW_some] <;> rfl) | (simp [*, errW_none, errW_some] <;> rfl), by repeat (first | (with_reducible first | exact HB.out | apply below_alloc | apply pw_below_drewN | apply below_drew1) | exact HB.out)⟩
                                                      · rw [if_neg c83] at H
                                                        have c83b0 : (t266 == 0) = false := beq_eq_false_iff_ne.mpr c83
                                                        have c83b1 : (t266 != 0) = true := bne_iff_ne.mpr c83
                                                        obtain rfl := Option.some.inj H
                                                        have p252 : 0 ≤ (1 : Int) := (by omega)
                                                        have q252 : 1 < (t213.length : Int) := of_decide_eq_true (by first | (with_reducible assumption) | assumption)
                                                        obtain ⟨ad252, e252, hx252_0, hx252_1, hx252_2⟩ := at_T25 (Kd.R_reads' HO_11.out).2.2 1 p252 q252
                                                        obtain rfl : ad216 = ad252 := (by injection e252)
                                                        (try simp only [show (1 : Int).toNat = 1 from rfl, Nat.reduceMul, Nat.reduceEqDiff, Go.Addr.add, ↓reduceIte] at hx252_0)
                                                        (try simp only [show (1 : Int).toNat = 1 from rfl, Nat.reduceMul, Nat.reduceEqDiff, Go.Addr.add, ↓reduceIte] at hx252_1)
                                                        (try simp only [show (1 : Int).toNat = 1 from rfl, Nat.reduceMul, Nat.reduceEqDiff, Go.Addr.add, ↓reduceIte] at hx252_2)
                                                        have qi252 : (1 < t213.length) = True := eq_true (by omega)
                                                        (try rw [show ((1 : Int)).toNat = 1 from rfl] at hx252_0)
                                                        (try rw [show 1 * 3 = 3 from rfl] at hx252_0)
                                                        (try rw [show ((1 : Int)).toNat = 1 from rfl] at hx252_1)
                                                        (try rw [show 1 * 3 = 3 from rfl] at hx252_1)
                                                        (try rw [show ((1 : Int)).toNat = 1 from rfl] at hx252_2)
                                                        (try rw [show 1 * 3 = 3 from rfl] at hx252_2)
                                                        replace p252 := eq_true p252
                                                        replace q252 := eq_true q252
                                                        go_wp2_with (first | ((with_reducible refine gate_callee (f := 25) rfl ?_); refine goesL_ (some 190) rfl rfl Try.func25 (by kernel_rfl) rfl #[.slice Ao23 t217.length co23, .agg #[.int .i64 ((rd_T25 t213 1).f0), .int .i64 ((rd_T25 t213 1).f1), .int .i64 ((rd_T25 t213 1).f2)]] rfl (by (try simp only [List.map_toArray, List.map_cons, List.map_nil]); first | done | rfl | (simp only [List.length_drop, List.length_take]; rfl)) ?_; (with_reducible refine (timeline_Put.calls _ _ t217 ((rd_T25 t213 1).f0) ((rd_T25 t213 1).f1) ((rd_T25 t213 1).f2) t253 t256 _ ?side1 ?side2 A77.out).mono ?_); (case side1 => repeat (first | exact (Kd.R_reads' HO_12.out).2.2 | (with_reducible refine Kd.C_alloc ?_ _) | (with_reducible refine Kd.C_drewN ?_ _) | (with_reducible refine Kd.C_drew ?_))); (case side2 => exact (Kd.R_reads' HO_12.out).2.1); rintro e w91 ⟨v254, rfl, ho0, hb⟩; refine ⟨_, rfl, ?_⟩; have n0_ := Aside0.mk (Kd.R_elder' (by (with_reducible repeat (first | apply Kd.R_alloc | apply Kd.R_drewN | apply Kd.R_drew)); exact HO_9.out) (Kd.R_base ho0) hb); have n1_ := Aside0.mk (Kd.R_elder' (by (with_reducible repeat (first | apply Kd.R_alloc | apply Kd.R_drewN | apply Kd.R_drew)); exact HO_11.out) (Kd.R_base ho0) hb); have n2_ := Aside0.mk (Kd.R_elder' (by (with_reducible repeat (first | apply Kd.R_alloc | apply Kd.R_drewN | apply Kd.R_drew)); exact HO_12.out) (Kd.R_base ho0) hb); have n3_ := Aside0.mk (Kd.R_lower (Kd.R_new' (Kd.R_new' (Kd.R_new' ho0 (Kd.R_lt (by (with_reducible repeat (first | apply Kd.R_alloc | apply Kd.R_drewN | apply Kd.R_drew)); exact HO_9.out))) (Kd.R_lt (by (with_reducible repeat (first | apply Kd.R_alloc | apply Kd.R_drewN | apply Kd.R_drew)); exact HO_11.out))) (Kd.R_lt (by (with_reducible repeat (first | apply Kd.R_alloc | apply Kd.R_drewN | apply Kd.R_drew)); exact HO_12.out))) (below_size (by repeat (first | (with_reducible first | exact HB.out | apply below_alloc | apply pw_below_drewN | apply below_drew1) | exact HB.out)))); have n4_ := Aside0.mk (below_step (by repeat (first | (with_reducible first | exact HB.out | apply below_alloc | apply pw_below_drewN | apply below_drew1) | exact HB.out)) hb); clear HO_9; clear HO_11; clear HO_12; clear HB; have HO_9 := n0_; have HO_11 := n1_; have HO_12 := n2_; have HO255 := n3_; have HB := n4_; clear n0_ n1_ n2_ n3_ n4_; (try clear hb); (try clear hb2); (try clear hk); (try clear hi); (try clear ho0); have p257 : 0 ≤ (1 : Int) := (by omega); have q257 : 1 < (t213.length : Int) := of_decide_eq_true (by first | (with_reducible assumption) | assumption); obtain ⟨ad257, e257, hx257_0, hx257_1, hx257_2⟩ := at_T25 (Kd.R_reads' HO_11.out).2.2 1 p257 q257; obtain rfl : ad216 = ad257 := (by injection e257); (try simp only [show (1 : Int).toNat = 1 from rfl, Nat.reduceMul, Nat.reduceEqDiff, Go.Addr.add, ↓reduceIte] at hx257_0); (try simp only [show (1 : Int).toNat = 1 from rfl, Nat.reduceMul, Nat.reduceEqDiff, Go.Addr.add, ↓reduceIte] at hx257_1); (try simp only [show (1 : Int).toNat = 1 from rfl, Nat.reduceMul, Nat.reduceEqDiff, Go.Addr.add, ↓reduceIte] at hx257_2); have qi257 : (1 < t213.length) = True := eq_true (by omega); (try rw [show ((1 : Int)).toNat = 1 from rfl] at hx257_0); (try rw [show 1 * 3 = 3 from rfl] at hx257_0); (try rw [show ((1 : Int)).toNat = 1 from rfl] at hx257_1); (try rw [show 1 * 3 = 3 from rfl] at hx257_1); (try rw [show ((1 : Int)).toNat = 1 from rfl] at hx257_2); (try rw [show 1 * 3 = 3 from rfl] at hx257_2); replace p257 := eq_true p257; replace q257 := eq_true q257) | ((with_reducible refine gate_callee (f := 25) rfl ?_); refine goesL_ (some 198) rfl rfl Try.func25 (by kernel_rfl) rfl #[.slice Ao21 t209.length co21, .agg #[.int .i64 ((rd_T25 t213 1).f0), .int .i64 ((rd_T25 t213 1).f1), .int .i64 ((rd_T25 t213 1).f2)]] rfl (by (try simp only [List.map_toArray, List.map_cons, List.map_nil]); first | done | rfl | (simp only [List.length_drop, List.length_take]; rfl)) ?_; (with_reducible refine (timeline_Put.calls _ _ t209 ((rd_T25 t213 1).f0) ((rd_T25 t213 1).f1) ((rd_T25 t213 1).f2) t258 t261 _ ?side1 ?side2 A78.out).mono ?_); (case side1 => repeat (first | exact (Kd.R_reads' HO_9.out).2.2 | (with_reducible refine Kd.C_alloc ?_ _) | (with_reducible refine Kd.C_drewN ?_ _) | (with_reducible refine Kd.C_drew ?_))); (case side2 => exact (Kd.R_reads' HO_9.out).2.1); rintro e w92 ⟨v259, rfl, ho0, hb⟩; refine ⟨_, rfl, ?_⟩; have n0_ := Aside0.mk (Kd.R_elder' (by (with_reducible repeat (first | apply Kd.R_alloc | apply Kd.R_drewN | apply Kd.R_drew)); exact HO_9.out) (Kd.R_base ho0) hb); have n1_ := Aside0.mk (Kd.R_elder' (by (with_reducible repeat (first | apply Kd.R_alloc | apply Kd.R_drewN | apply Kd.R_drew)); exact HO_11.out) (Kd.R_base ho0) hb); have n2_ := Aside0.mk (Kd.R_elder' (by (with_reducible repeat (first | apply Kd.R_alloc | apply Kd.R_drewN | apply Kd.R_drew)); exact HO_12.out) (Kd.R_base ho0) hb); have n3_ := Aside0.mk (Kd.R_elder' (by (with_reducible repeat (first | apply Kd.R_alloc | apply Kd.R_drewN | apply Kd.R_drew)); exact HO255.out) (Kd.R_base ho0) hb); have n4_ := Aside0.mk (Kd.R_lower (Kd.R_new' (Kd.R_new' (Kd.R_new' (Kd.R_new' ho0 (Kd.R_lt (by (with_reducible repeat (first | apply Kd.R_alloc | apply Kd.R_drewN | apply Kd.R_drew)); exact HO_9.out))) (Kd.R_lt (by (with_reducible repeat (first | apply Kd.R_alloc | apply Kd.R_drewN | apply Kd.R_drew)); exact HO_11.out))) (Kd.R_lt (by (with_reducible repeat (first | apply Kd.R_alloc | apply Kd.R_drewN | apply Kd.R_drew)); exact HO_12.out))) (Kd.R_lt (by (with_reducible repeat (first | apply Kd.R_alloc | apply Kd.R_drewN | apply Kd.R_drew)); exact HO255.out))) (below_size (by repeat (first | (with_reducible first | exact HB.out | apply below_alloc | apply pw_below_drewN | apply below_drew1) | exact HB.out)))); have n5_ := Aside0.mk (below_step (by repeat (first | (with_reducible first | exact HB.out | apply below_alloc | apply pw_below_drewN | apply below_drew1) | exact HB.out)) hb); clear HO_9; clear HO_11; clear HO_12; clear HO255; clear HB; have HO_9 := n0_; have HO_11 := n1_; have HO_12 := n2_; have HO255 := n3_; have HO260 := n4_; have HB := n5_; clear n0_ n1_ n2_ n3_ n4_ n5_; (try clear hb); (try clear hb2); (try clear hk); (try clear hi); (try clear ho0); have p262 : 0 ≤ (0 : Int) := (by omega); have q262 : 0 < (t213.length : Int) := of_decide_eq_true (by first | (with_reducible assumption) | assumption); obtain ⟨ad262, e262, hx262_0, hx262_1, hx262_2⟩ := at_T25 (Kd.R_reads' HO_11.out).2.2 0 p262 q262; obtain rfl : ad216 = ad262 := (by injection e262); have qi262 : (0 < t213.length) = True := eq_true (by omega); (try rw [show ((0 : Int)).toNat = 0 from rfl] at hx262_0); (try rw [show 0 * 3 = 0 from rfl] at hx262_0); (try rw [Addr.add_zero'] at hx262_0); (try rw [show ((0 : Int)).toNat = 0 from rfl] at hx262_1); (try rw [show 0 * 3 = 0 from rfl] at hx262_1); (try rw [Addr.add_zero'] at hx262_1); (try rw [show ((0 : Int)).toNat = 0 from rfl] at hx262_2); (try rw [show 0 * 3 = 0 from rfl] at hx262_2); (try rw [Addr.add_zero'] at hx262_2); replace p262 := eq_true p262; replace q262 := eq_true q262; obtain ⟨Ao93, co93, eo93⟩ := Kd.R_slice HO260.out; subst eo93) | ((with_reducible refine gate_callee (f := 25) rfl ?_); refine goesL_ (some 206) rfl rfl Try.func25 (by kernel_rfl) rfl #[.slice Ao93 t258.length co93, .agg #[.int .i64 ((rd_T25 t213 0).f0), .int .i64 ((rd_T25 t213 0).f1), .int .i64 ((rd_T25 t213 0).f2)]] rfl (by (try simp only [List.map_toArray, List.map_cons, List.map_nil]); first | done | rfl | (simp only [List.length_drop, List.length_take]; rfl)) ?_; (with_reducible refine (timeline_Put.calls _ _ t258 ((rd_T25 t213 0).f0) ((rd_T25 t213 0).f1) ((rd_T25 t213 0).f2) t263 t266 _ ?side1 ?side2 A80.out).mono ?_); (case side1 => repeat (first | exact (Kd.R_reads' HO260.out).2.2 | (with_reducible refine Kd.C_alloc ?_ _) | (with_reducible refine Kd.C_drewN ?_ _) | (with_reducible refine Kd.C_drew ?_))); (case side2 => exact (Kd.R_reads' HO260.out).2.1); rintro e w94 ⟨v264, rfl, ho0, hb⟩; refine ⟨_, rfl, ?_⟩; have n0_ := Aside0.mk (Kd.R_elder' (by (with_reducible repeat (first | apply Kd.R_alloc | apply Kd.R_drewN | apply Kd.R_drew)); exact HO_9.out) (Kd.R_base ho0) hb); have n1_ := Aside0.mk (Kd.R_elder' (by (with_reducible repeat (first | apply Kd.R_alloc | apply Kd.R_drewN | apply Kd.R_drew)); exact HO_11.out) (Kd.R_base ho0) hb); have n2_ := Aside0.mk (Kd.R_elder' (by (with_reducible repeat (first | apply Kd.R_alloc | apply Kd.R_drewN | apply Kd.R_drew)); exact HO_12.out) (Kd.R_base ho0) hb); have n3_ := Aside0.mk (Kd.R_elder' (by (with_reducible repeat (first | apply Kd.R_alloc | apply Kd.R_drewN | apply Kd.R_drew)); exact HO255.out) (Kd.R_base ho0) hb); have n4_ := Aside0.mk (Kd.R_elder' (by (with_reducible repeat (first | apply Kd.R_alloc | apply Kd.R_drewN | apply Kd.R_drew)); exact HO260.out) (Kd.R_base ho0) hb); have n5_ := Aside0.mk (Kd.R_lower (Kd.R_new' (Kd.R_new' (Kd.R_new' (Kd.R_new' (Kd.R_new' ho0 (Kd.R_lt (by (with_reducible repeat (first | apply Kd.R_alloc | apply Kd.R_drewN | apply Kd.R_drew)); exact HO_9.out))) (Kd.R_lt (by (with_reducible repeat (first | apply Kd.R_alloc | apply Kd.R_drewN | apply Kd.R_drew)); exact HO_11.out))) (Kd.R_lt (by (with_reducible repeat (first | apply Kd.R_alloc | apply Kd.R_drewN | apply Kd.R_drew)); exact HO_12.out))) (Kd.R_lt (by (with_reducible repeat (first | apply Kd.R_alloc | apply Kd.R_drewN | apply Kd.R_drew)); exact HO255.out))) (Kd.R_lt (by (with_reducible repeat (first | apply Kd.R_alloc | apply Kd.R_drewN | apply Kd.R_drew)); exact HO260.out))) (below_size (by repeat (first | (with_reducible first | exact HB.out | apply below_alloc | apply pw_below_drewN | apply below_drew1) | exact HB.out)))); have n6_ := Aside0.mk (below_step (by repeat (first | (with_reducible first | exact HB.out | apply below_alloc | apply pw_below_drewN | apply below_drew1) | exact HB.out)) hb); clear HO_9; clear HO_11; clear HO_12; clear HO255; clear HO260; clear HB; have HO_9 := n0_; have HO_11 := n1_; have HO_12 := n2_; have HO255 := n3_; have HO260 := n4_; have HO265 := n5_; have HB := n6_; clear n0_ n1_ n2_ n3_ n4_ n5_ n6_; (try clear hb); (try clear hb2); (try clear hk); (try clear hi); (try clear ho0)))
                                                        go_ret
                                                        exact ⟨by first | rfl | (simp [errW_none, errW_some] <;> rfl) | (simp [*, errW_none, errW_some] <;> rfl), by repeat (first | (with_reducible first | exact HB.out | apply below_alloc | apply pw_below_drewN | apply below_drew1) | exact HB.out)⟩
                                                    · rw [if_neg c82] at H
                                                      have c82b0 : (t261 == 0) = false := beq_eq_false_iff_ne.mpr c82
                                                      have c82b1 : (t261 != 0) = true := bne_iff_ne.mpr c82
                                                      obtain rfl := Option.some.inj H
                                                      have p252 : 0 ≤ (1 : Int) := (by omega)
                                                      have q252 : 1 < (t213.length : Int) := of_decide_eq_true (by first | (with_reducible assumption) | assumption)
                                                      obtain ⟨ad252, e252, hx252_0, hx252_1, hx252_2⟩ := at_T25 (Kd.R_reads' HO_11.out).2.2 1 p252 q252
                                                      obtain rfl : ad216 = ad252 := (by injection e252)
                                                      (try simp only [show (1 : Int).toNat = 1 from rfl, Nat.reduceMul, Nat.reduceEqDiff, Go.Addr.add, ↓reduceIte] at hx252_0)
                                                      (try simp only [show (1 : Int).toNat = 1 from rfl, Nat.reduceMul, Nat.reduceEqDiff, Go.Addr.add, ↓reduceIte] at hx252_1)
                                                      (try simp only [show (1 : Int).toNat = 1 from rfl, Nat.reduceMul, Nat.reduceEqDiff, Go.Addr.add, ↓reduceIte] at hx252_2)
                                                      have qi252 : (1 < t213.length) = True := eq_true (by omega)
                                                      (try rw [show ((1 : Int)).toNat = 1 from rfl] at hx252_0)
                                                      (try rw [show 1 * 3 = 3 from rfl] at hx252_0)
                                                      (try rw [show ((1 : Int)).toNat = 1 from rfl] at hx252_1)
                                                      (try rw [show 1 * 3 = 3 from rfl] at hx252_1)
                                                      (try rw [show ((1 : Int)).toNat = 1 from rfl] at hx252_2)
                                                      (try rw [show 1 * 3 = 3 from rfl] at hx252_2)
                                                      replace p252 := eq_true p252
                                                      replace q252 := eq_true q252
                                                      go_wp2_with (first | ((with_reducible refine gate_callee (f := 25) rfl ?_); refine goesL_ (some 190) rfl rfl Try.func25 (by kernel_rfl) rfl #[.slice Ao23 t217.length co23, .agg #[.int .i64 ((rd_T25 t213 1).f0), .int .i64 ((rd_T25 t213 1).f1), .int .i64 ((rd_T25 t213 1).f2)]] rfl (by (try simp only [List.map_toArray, List.map_cons, List.map_nil]); first | done | rfl | (simp only [List.length_drop, List.length_take]; rfl)) ?_; (with_reducible refine (timeline_Put.calls _ _ t217 ((rd_T25 t213 1).f0) ((rd_T25 t213 1).f1) ((rd_T25 t213 1).f2) t253 t256 _ ?side1 ?side2 A77.out).mono ?_); (case side1 => repeat (first | exact (Kd.R_reads' HO_12.out).2.2 | (with_reducible refine Kd.C_alloc ?_ _) | (with_reducible refine Kd.C_drewN ?_ _) | (with_reducible refine Kd.C_drew ?_))); (case side2 => exact (Kd.R_reads' HO_12.out).2.1); rintro e w95 ⟨v254, rfl, ho0, hb⟩; refine ⟨_, rfl, ?_⟩; have n0_ := Aside0.mk (Kd.R_elder' (by (with_reducible repeat (first | apply Kd.R_alloc | apply Kd.R_drewN | apply Kd.R_drew)); exact HO_9.out) (Kd.R_base ho0) hb); have n1_ := Aside0.mk (Kd.R_elder' (by (with_reducible repeat (first | apply Kd.R_alloc | apply Kd.R_drewN | apply Kd.R_drew)); exact HO_11.out) (Kd.R_base ho0) hb); have n2_ := Aside0.mk (Kd.R_elder' (by (with_reducible repeat (first | apply Kd.R_alloc | apply Kd.R_drewN | apply Kd.R_drew)); exact HO_12.out) (Kd.R_base ho0) hb); have n3_ := Aside0.mk (Kd.R_lower (Kd.R_new' (Kd.R_new' (Kd.R_new' ho0 (Kd.R_lt (by (with_reducible repeat (first | apply Kd.R_alloc | apply Kd.R_drewN | apply Kd.R_drew)); exact HO_9.out))) (Kd.R_lt (by (with_reducible repeat (first | apply Kd.R_alloc | apply Kd.R_drewN | apply Kd.R_drew)); exact HO_11.out))) (Kd.R_lt (by (with_reducible repeat (first | apply Kd.R_alloc | apply Kd.R_drewN | apply Kd.R_drew)); exact HO_12.out))) (below_size (by repeat (first | (with_reducible first | exact HB.out | apply below_alloc | apply pw_below_drewN | apply below_drew1) | exact HB.out)))); have n4_ := Aside0.mk (below_step (by repeat (first | (with_reducible first | exact HB.out | apply below_alloc | apply pw_below_drewN | apply below_drew1) | exact HB.out)) hb); clear HO_9; clear HO_11; clear HO_12; clear HB; have HO_9 := n0_; have HO_11 := n1_; have HO_12 := n2_; have HO255 := n3_; have HB := n4_; clear n0_ n1_ n2_ n3_ n4_; (try clear hb); (try clear hb2); (try clear hk); (try clear hi); (try clear ho0); have p257 : 0 ≤ (1 : Int) := (by omega); have q257 : 1 < (t213.length : Int) := of_decide_eq_true (by first | (with_reducible assumption) | assumption); obtain ⟨ad257, e257, hx257_0, hx257_1, hx257_2⟩ := at_T25 (Kd.R_reads' HO_11.out).2.2 1 p257 q257; obtain rfl : ad216 = ad257 := (by injection e257); (try simp only [show (1 : Int).toNat = 1 from rfl, Nat.reduceMul, Nat.reduceEqDiff, Go.Addr.add, ↓reduceIte] at hx257_0); (try simp only [show (1 : Int).toNat = 1 from rfl, Nat.reduceMul, Nat.reduceEqDiff, Go.Addr.add, ↓reduceIte] at hx257_1); (try simp only [show (1 : Int).toNat = 1 from rfl, Nat.reduceMul, Nat.reduceEqDiff, Go.Addr.add, ↓reduceIte] at hx257_2); have qi257 : (1 < t213.length) = True := eq_true (by omega); (try rw [show ((1 : Int)).toNat = 1 from rfl] at hx257_0); (try rw [show 1 * 3 = 3 from rfl] at hx257_0); (try rw [show ((1 : Int)).toNat = 1 from rfl] at hx257_1); (try rw [show 1 * 3 = 3 from rfl] at hx257_1); (try rw [show ((1 : Int)).toNat = 1 from rfl] at hx257_2); (try rw [show 1 * 3 = 3 from rfl] at hx257_2); replace p257 := eq_true p257; replace q257 := eq_true q257) | ((with_reducible refine gate_callee (f := 25) rfl ?_); refine goesL_ (some 198) rfl rfl Try.func25 (by kernel_rfl) rfl #[.slice Ao21 t209.length co21, .agg #[.int .i64 ((rd_T25 t213 1).f0), .int .i64 ((rd_T25 t213 1).f1), .int .i64 ((rd_T25 t213 1).f2)]] rfl (by (try simp only [List.map_toArray, List.map_cons, List.map_nil]); first | done | rfl | (simp only [List.length_drop, List.length_take]; rfl)) ?_; (with_reducible refine (timeline_Put.calls _ _ t209 ((rd_T25 t213 1).f0) ((rd_T25 t213 1).f1) ((rd_T25 t213 1).f2) t258 t261 _ ?side1 ?side2 A78.out).mono ?_); (case side1 => repeat (first | exact (Kd.R_reads' HO_9.out).2.2 | (with_reducible refine Kd.C_alloc ?_ _) | (with_reducible refine Kd.C_drewN ?_ _) | (with_reducible refine Kd.C_drew ?_))); (case side2 => exact (Kd.R_reads' HO_9.out).2.1); rintro e w96 ⟨v259, rfl, ho0, hb⟩; refine ⟨_, rfl, ?_⟩; have n0_ := Aside0.mk (Kd.R_elder' (by (with_reducible repeat (first | apply Kd.R_alloc | apply Kd.R_drewN | apply Kd.R_drew)); exact HO_9.out) (Kd.R_base ho0) hb); have n1_ := Aside0.mk (Kd.R_elder' (by (with_reducible repeat (first | apply Kd.R_alloc | apply Kd.R_drewN | apply Kd.R_drew)); exact HO_11.out) (Kd.R_base ho0) hb); have n2_ := Aside0.mk (Kd.R_elder' (by (with_reducible repeat (first | apply Kd.R_alloc | apply Kd.R_drewN | apply Kd.R_drew)); exact HO_12.out) (Kd.R_base ho0) hb); have n3_ := Aside0.mk (Kd.R_elder' (by (with_reducible repeat (first | apply Kd.R_alloc | apply Kd.R_drewN | apply Kd.R_drew)); exact HO255.out) (Kd.R_base ho0) hb); have n4_ := Aside0.mk (Kd.R_lower (Kd.R_new' (Kd.R_new' (Kd.R_new' (Kd.R_new' ho0 (Kd.R_lt (by (with_reducible repeat (first | apply Kd.R_alloc | apply Kd.R_drewN | apply Kd.R_drew)); exact HO_9.out))) (Kd.R_lt (by (with_reducible repeat (first | apply Kd.R_alloc | apply Kd.R_drewN | apply Kd.R_drew)); exact HO_11.out))) (Kd.R_lt (by (with_reducible repeat (first | apply Kd.R_alloc | apply Kd.R_drewN | apply Kd.R_drew)); exact HO_12.out))) (Kd.R_lt (by (with_reducible repeat (first | apply Kd.R_alloc | apply Kd.R_drewN | apply Kd.R_drew)); exact HO255.out))) (below_size (by repeat (first | (with_reducible first | exact HB.out | apply below_alloc | apply pw_below_drewN | apply below_drew1) | exact HB.out)))); have n5_ := Aside0.mk (below_step (by repeat (first | (with_reducible first | exact HB.out | apply below_alloc | apply pw_below_drewN | apply below_drew1) | exact HB.out)) hb); clear HO_9; clear HO_11; clear HO_12; clear HO255; clear HB; have HO_9 := n0_; have HO_11 := n1_; have HO_12 := n2_; have HO255 := n3_; have HO260 := n4_; have HB := n5_; clear n0_ n1_ n2_ n3_ n4_ n5_; (try clear hb); (try clear hb2); (try clear hk); (try clear hi); (try clear ho0); have p262 : 0 ≤ (0 : Int) := (by omega); have q262 : 0 < (t213.length : Int) := of_decide_eq_true (by first | (with_reducible assumption) | assumption); obtain ⟨ad262, e262, hx262_0, hx262_1, hx262_2⟩ := at_T25 (Kd.R_reads' HO_11.out).2.2 0 p262 q262; obtain rfl : ad216 = ad262 := (by injection e262); have qi262 : (0 < t213.length) = True := eq_true (by omega); (try rw [show ((0 : Int)).toNat = 0 from rfl] at hx262_0); (try rw [show 0 * 3 = 0 from rfl] at hx262_0); (try rw [Addr.add_zero'] at hx262_0); (try rw [show ((0 : Int)).toNat = 0 from rfl] at hx262_1); (try rw [show 0 * 3 = 0 from rfl] at hx262_1); (try rw [Addr.add_zero'] at hx262_1); (try rw [show ((0 : Int)).toNat = 0 from rfl] at hx262_2); (try rw [show 0 * 3 = 0 from rfl] at hx262_2); (try rw [Addr.add_zero'] at hx262_2); replace p262 := eq_true p262; replace q262 := eq_true q262; obtain ⟨Ao97, co97, eo97⟩ := Kd.R_slice HO260.out; subst eo97) | ((with_reducible refine gate_callee (f := 25) rfl ?_); refine goesL_ (some 206) rfl rfl Try.func25 (by kernel_rfl) rfl #[.slice Ao97 t258.length co97, .agg #[.int .i64 ((rd_T25 t213 0).f0), .int .i64 ((rd_T25 t213 0).f1), .int .i64 ((rd_T25 t213 0).f2)]] rfl (by (try simp only [List.map_toArray, List.map_cons, List.map_nil]); first | done | rfl | (simp only [List.length_drop, List.length_take]; rfl)) ?_; (with_reducible refine (timeline_Put.calls _ _ t258 ((rd_T25 t213 0).f0) ((rd_T25 t213 0).f1) ((rd_T25 t213 0).f2) t263 t266 _ ?side1 ?side2 A80.out).mono ?_); (case side1 => repeat (first | exact (Kd.R_reads' HO260.out).2.2 | (with_reducible refine Kd.C_alloc ?_ _) | (with_reducible refine Kd.C_drewN ?_ _) | (with_reducible refine Kd.C_drew ?_))); (case side2 => exact (Kd.R_reads' HO260.out).2.1); rintro e w98 ⟨v264, rfl, ho0, hb⟩; refine ⟨_, rfl, ?_⟩; have n0_ := Aside0.mk (Kd.R_elder' (by (with_reducible repeat (first | apply Kd.R_alloc | apply Kd.R_drewN | apply Kd.R_drew)); exact HO_9.out) (Kd.R_base ho0) hb); have n1_ := Aside0.mk (Kd.R_elder' (by (with_reducible repeat (first | apply Kd.R_alloc | apply Kd.R_drewN | apply Kd.R_drew)); exact HO_11.out) (Kd.R_base ho0) hb); have n2_ := Aside0.mk (Kd.R_elder' (by (with_reducible repeat (first | apply Kd.R_alloc | apply Kd.R_drewN | apply Kd.R_drew)); exact HO_12.out) (Kd.R_base ho0) hb); have n3_ := Aside0.mk (Kd.R_elder' (by (with_reducible repeat (first | apply Kd.R_alloc | apply Kd.R_drewN | apply Kd.R_drew)); exact HO255.out) (Kd.R_base ho0) hb); have n4_ := Aside0.mk (Kd.R_elder' (by (with_reducible repeat (first | apply Kd.R_alloc | apply Kd.R_drewN | apply Kd.R_drew)); exact HO260.out) (Kd.R_base ho0) hb); have n5_ := Aside0.mk (Kd.R_lower (Kd.R_new' (Kd.R_new' (Kd.R_new' (Kd.R_new' (Kd.R_new' ho0 (Kd.R_lt (by (with_reducible repeat (first | apply Kd.R_alloc | apply Kd.R_drewN | apply Kd.R_drew)); exact HO_9.out))) (Kd.R_lt (by (with_reducible repeat (first | apply Kd.R_alloc | apply Kd.R_drewN | apply Kd.R_drew)); exact HO_11.out))) (Kd.R_lt (by (with_reducible repeat (first | apply Kd.R_alloc | apply Kd.R_drewN | apply Kd.R_drew)); exact HO_12.out))) (Kd.R_lt (by (with_reducible repeat (first | apply Kd.R_alloc | apply Kd.R_drewN | apply Kd.R_drew)); exact HO255.out))) (Kd.R_lt (by (with_reducible repeat (first | apply Kd.R_alloc | apply Kd.R_drewN | apply Kd.R_drew)); exact HO260.out))) (below_size (by repeat (first | (with_reducible first | exact HB.out | apply below_alloc | apply pw_below_drewN | apply below_drew1) | exact HB.out)))); have n6_ := Aside0.mk (below_step (by repeat (first | (with_reducible first | exact HB.out | apply below_alloc | apply pw_below_drewN | apply below_drew1) | exact HB.out)) hb); clear HO_9; clear HO_11; clear HO_12; clear HO255; clear HO260; clear HB; have HO_9 := n0_; have HO_11 := n1_; have HO_12 := n2_; have HO255 := n3_; have HO260 := n4_; have HO265 := n5_; have HB := n6_; clear n0_ n1_ n2_ n3_ n4_ n5_ n6_; (try clear hb); (try clear hb2); (try clear hk); (try clear hi); (try clear ho0)))
                                                      go_ret
                                                      exact ⟨by first | rfl | (simp [errW_none, errW_some] <;> rfl) | (simp [*, errW_none, errW_some] <;> rfl), by repeat (first | (with_reducible first | exact HB.out | apply below_alloc | apply pw_below_drewN | apply below_drew1) | exact HB.out)⟩
                                                  · rw [if_neg c81] at H
                                                    have c81b0 : (t256 == 0) = false := beq_eq_false_iff_ne.mpr c81
                                                    have c81b1 : (t256 != 0) = true := bne_iff_ne.mpr c81
                                                    obtain rfl := Option.some.inj H
                                                    have p252 : 0 ≤ (1 : Int) := (by omega)
                                                    have q252 : 1 < (t213.length : Int) := of_decide_eq_true (by first | (with_reducible assumption) | assumption)
                                                    obtain ⟨ad252, e252, hx252_0, hx252_1, hx252_2⟩ := at_T25 (Kd.R_reads' HO_11.out).2.2 1 p252 q252
                                                    obtain rfl : ad216 = ad252 := (by injection e252)
                                                    (try simp only [show (1 : Int).toNat = 1 from rfl, Nat.reduceMul, Nat.reduceEqDiff, Go.Addr.add, ↓reduceIte] at hx252_0)
                                                    (try simp only [show (1 : Int).toNat = 1 from rfl, Nat.reduceMul, Nat.reduceEqDiff, Go.Addr.add, ↓reduceIte] at hx252_1)
                                                    (try simp only [show (1 : Int).toNat = 1 from rfl, Nat.reduceMul, Nat.reduceEqDiff, Go.Addr.add, ↓reduceIte] at hx252_2)
                                                    have qi252 : (1 < t213.length) = True := eq_true (by omega)
                                                    (try rw [show ((1 : Int)).toNat = 1 from rfl] at hx252_0)
                                                    (try rw [show 1 * 3 = 3 from rfl] at hx252_0)
                                                    (try rw [show ((1 : Int)).toNat = 1 from rfl] at hx252_1)
                                                    (try rw [show 1 * 3 = 3 from rfl] at hx252_1)
                                                    (try rw [show ((1 : Int)).toNat = 1 from rfl] at hx252_2)
                                                    (try rw [show 1 * 3 = 3 from rfl] at hx252_2)
                                                    replace p252 := eq_true p252
                                                    replace q252 := eq_true q252
                                                    go_wp2_with (first | ((with_reducible refine gate_callee (f := 25) rfl ?_); refine goesL_ (some 190) rfl rfl Try.func25 (by kernel_rfl) rfl #[.slice Ao23 t217.length co23, .agg #[.int .i64 ((rd_T25 t213 1).f0), .int .i64 ((rd_T25 t213 1).f1), .int .i64 ((rd_T25 t213 1).f2)]] rfl (by (try simp only [List.map_toArray, List.map_cons, List.map_nil]); first | done | rfl | (simp only [List.length_drop, List.length_take]; rfl)) ?_; (with_reducible refine (timeline_Put.calls _ _ t217 ((rd_T25 t213 1).f0) ((rd_T25 t213 1).f1) ((rd_T25 t213 1).f2) t253 t256 _ ?side1 ?side2 A77.out).mono ?_); (case side1 => repeat (first | exact (Kd.R_reads' HO_12.out).2.2 | (with_reducible refine Kd.C_alloc ?_ _) | (with_reducible refine Kd.C_drewN ?_ _) | (with_reducible refine Kd.C_drew ?_))); (case side2 => exact (Kd.R_reads' HO_12.out).2.1); rintro e w99 ⟨v254, rfl, ho0, hb⟩; refine ⟨_, rfl, ?_⟩; have n0_ := Aside0.mk (Kd.R_elder' (by (with_reducible repeat (first | apply Kd.R_alloc | apply Kd.R_drewN | apply Kd.R_drew)); exact HO_9.out) (Kd.R_base ho0) hb); have n1_ := Aside0.mk (Kd.R_elder' (by (with_reducible repeat (first | apply Kd.R_alloc | apply Kd.R_drewN | apply Kd.R_drew)); exact HO_11.out) (Kd.R_base ho0) hb); have n2_ := Aside0.mk (Kd.R_elder' (by (with_reducible repeat (first | apply Kd.R_alloc | apply Kd.R_drewN | apply Kd.R_drew)); exact HO_12.out) (Kd.R_base ho0) hb); have n3_ := Aside0.mk (Kd.R_lower (Kd.R_new' (Kd.R_new' (Kd.R_new' ho0 (Kd.R_lt (by (with_reducible repeat (first | apply Kd.R_alloc | apply Kd.R_drewN | apply Kd.R_drew)); exact HO_9.out))) (Kd.R_lt (by (with_reducible repeat (first | apply Kd.R_alloc | apply Kd.R_drewN | apply Kd.R_drew)); exact HO_11.out))) (Kd.R_lt (by (with_reducible repeat (first | apply Kd.R_alloc | apply Kd.R_drewN | apply Kd.R_drew)); exact HO_12.out))) (below_size (by repeat (first | (with_reducible first | exact HB.out | apply below_alloc | apply pw_below_drewN | apply below_drew1) | exact HB.out)))); have n4_ := Aside0.mk (below_step (by repeat (first | (with_reducible first | exact HB.out | apply below_alloc | apply pw_below_drewN | apply below_drew1) | exact HB.out)) hb); clear HO_9; clear HO_11; clear HO_12; clear HB; have HO_9 := n0_; have HO_11 := n1_; have HO_12 := n2_; have HO255 := n3_; have HB := n4_; clear n0_ n1_ n2_ n3_ n4_; (try clear hb); (try clear hb2); (try clear hk); (try clear hi); (try clear ho0); have p257 : 0 ≤ (1 : Int) := (by omega); have q257 : 1 < (t213.length : Int) := of_decide_eq_true (by first | (with_reducible assumption) | assumption); obtain ⟨ad257, e257, hx257_0, hx257_1, hx257_2⟩ := at_T25 (Kd.R_reads' HO_11.out).2.2 1 p257 q257; obtain rfl : ad216 = ad257 := (by injection e257); (try simp only [show (1 : Int).toNat = 1 from rfl, Nat.reduceMul, Nat.reduceEqDiff, Go.Addr.add, ↓reduceIte] at hx257_0); (try simp only [show (1 : Int).toNat = 1 from rfl, Nat.reduceMul, Nat.reduceEqDiff, Go.Addr.add, ↓reduceIte] at hx257_1); (try simp only [show (1 : Int).toNat = 1 from rfl, Nat.reduceMul, Nat.reduceEqDiff, Go.Addr.add, ↓reduceIte] at hx257_2); have qi257 : (1 < t213.length) = True := eq_true (by omega); (try rw [show ((1 : Int)).toNat = 1 from rfl] at hx257_0); (try rw [show 1 * 3 = 3 from rfl] at hx257_0); (try rw [show ((1 : Int)).toNat = 1 from rfl] at hx257_1); (try rw [show 1 * 3 = 3 from rfl] at hx257_1); (try rw [show ((1 : Int)).toNat = 1 from rfl] at hx257_2); (try rw [show 1 * 3 = 3 from rfl] at hx257_2); replace p257 := eq_true p257; replace q257 := eq_true q257) | ((with_reducible refine gate_callee (f := 25) rfl ?_); refine goesL_ (some 198) rfl rfl Try.func25 (by kernel_rfl) rfl #[.slice Ao21 t209.length co21, .agg #[.int .i64 ((rd_T25 t213 1).f0), .int .i64 ((rd_T25 t213 1).f1), .int .i64 ((rd_T25 t213 1).f2)]] rfl (by (try simp only [List.map_toArray, List.map_cons, List.map_nil]); first | done | rfl | (simp only [List.length_drop, List.length_take]; rfl)) ?_; (with_reducible refine (timeline_Put.calls _ _ t209 ((rd_T25 t213 1).f0) ((rd_T25 t213 1).f1) ((rd_T25 t213 1).f2) t258 t261 _ ?side1 ?side2 A78.out).mono ?_); (case side1 => repeat (first | exact (Kd.R_reads' HO_9.out).2.2 | (with_reducible refine Kd.C_alloc ?_ _) | (with_reducible refine Kd.C_drewN ?_ _) | (with_reducible refine Kd.C_drew ?_))); (case side2 => exact (Kd.R_reads' HO_9.out).2.1); rintro e w100 ⟨v259, rfl, ho0, hb⟩; refine ⟨_, rfl, ?_⟩; have n0_ := Aside0.mk (Kd.R_elder' (by (with_reducible repeat (first | apply Kd.R_alloc | apply Kd.R_drewN | apply Kd.R_drew)); exact HO_9.out) (Kd.R_base ho0) hb); have n1_ := Aside0.mk (Kd.R_elder' (by (with_reducible repeat (first | apply Kd.R_alloc | apply Kd.R_drewN | apply Kd.R_drew)); exact HO_11.out) (Kd.R_base ho0) hb); have n2_ := Aside0.mk (Kd.R_elder' (by (with_reducible repeat (first | apply Kd.R_alloc | apply Kd.R_drewN | apply Kd.R_drew)); exact HO_12.out) (Kd.R_base ho0) hb); have n3_ := Aside0.mk (Kd.R_elder' (by (with_reducible repeat (first | apply Kd.R_alloc | apply Kd.R_drewN | apply Kd.R_drew)); exact HO255.out) (Kd.R_base ho0) hb); have n4_ := Aside0.mk (Kd.R_lower (Kd.R_new' (Kd.R_new' (Kd.R_new' (Kd.R_new' ho0 (Kd.R_lt (by (with_reducible repeat (first | apply Kd.R_alloc | apply Kd.R_drewN | apply Kd.R_drew)); exact HO_9.out))) (Kd.R_lt (by (with_reducible repeat (first | apply Kd.R_alloc | apply Kd.R_drewN | apply Kd.R_drew)); exact HO_11.out))) (Kd.R_lt (by (with_reducible repeat (first | apply Kd.R_alloc | apply Kd.R_drewN | apply Kd.R_drew)); exact HO_12.out))) (Kd.R_lt (by (with_reducible repeat (first | apply Kd.R_alloc | apply Kd.R_drewN | apply Kd.R_drew)); exact HO255.out))) (below_size (by repeat (first | (with_reducible first | exact HB.out | apply below_alloc | apply pw_below_drewN | apply below_drew1) | exact HB.out)))); have n5_ := Aside0.mk (below_step (by repeat (first | (with_reducible first | exact HB.out | apply below_alloc | apply pw_below_drewN | apply below_drew1) | exact HB.out)) hb); clear HO_9; clear HO_11; clear HO_12; clear HO255; clear HB; have HO_9 := n0_; have HO_11 := n1_; have HO_12 := n2_; have HO255 := n3_; have HO260 := n4_; have HB := n5_; clear n0_ n1_ n2_ n3_ n4_ n5_; (try clear hb); (try clear hb2); (try clear hk); (try clear hi); (try clear ho0); have p262 : 0 ≤ (0 : Int) := (by omega); have q262 : 0 < (t213.length : Int) := of_decide_eq_true (by first | (with_reducible assumption) | assumption); obtain ⟨ad262, e262, hx262_0, hx262_1, hx262_2⟩ := at_T25 (Kd.R_reads' HO_11.out).2.2 0 p262 q262; obtain rfl : ad216 = ad262 := (by injection e262); have qi262 : (0 < t213.length) = True := eq_true (by omega); (try rw [show ((0 : Int)).toNat = 0 from rfl] at hx262_0); (try rw [show 0 * 3 = 0 from rfl] at hx262_0); (try rw [Addr.add_zero'] at hx262_0); (try rw [show ((0 : Int)).toNat = 0 from rfl] at hx262_1); (try rw [show 0 * 3 = 0 from rfl] at hx262_1); (try rw [Addr.add_zero'] at hx262_1); (try rw [show ((0 : Int)).toNat = 0 from rfl] at hx262_2); (try rw [show 0 * 3 = 0 from rfl] at hx262_2); (try rw [Addr.add_zero'] at hx262_2); replace p262 := eq_true p262; replace q262 := eq_true q262; obtain ⟨Ao101, co101, eo101⟩ := Kd.R_slice HO260.out; subst eo101) | ((with_reducible refine gate_callee (f := 25) rfl ?_); refine goesL_ (some 206) rfl rfl Try.func25 (by kernel_rfl) rfl #[.slice Ao101 t258.length co101, .agg #[.int .i64 ((rd_T25 t213 0).f0), .int .i64 ((rd_T25 t213 0).f1), .int .i64 ((rd_T25 t213 0).f2)]] rfl (by (try simp only [List.map_toArray, List.map_cons, List.map_nil]); first | done | rfl | (simp only [List.length_drop, List.length_take]; rfl)) ?_; (with_reducible refine (timeline_Put.calls _ _ t258 ((rd_T25 t213 0).f0) ((rd_T25 t213 0).f1) ((rd_T25 t213 0).f2) t263 t266 _ ?side1 ?side2 A80.out).mono ?_); (case side1 => repeat (first | exact (Kd.R_reads' HO260.out).2.2 | (with_reducible refine Kd.C_alloc ?_ _) | (with_reducible refine Kd.C_drewN ?_ _) | (with_reducible refine Kd.C_drew ?_))); (case side2 => exact (Kd.R_reads' HO260.out).2.1); rintro e w102 ⟨v264, rfl, ho0, hb⟩; refine ⟨_, rfl, ?_⟩; have n0_ := Aside0.mk (Kd.R_elder' (by (with_reducible repeat (first | apply Kd.R_alloc | apply Kd.R_drewN | apply Kd.R_drew)); exact HO_9.out) (Kd.R_base ho0) hb); have n1_ := Aside0.mk (Kd.R_elder' (by (with_reducible repeat (first | apply Kd.R_alloc | apply Kd.R_drewN | apply Kd.R_drew)); exact HO_11.out) (Kd.R_base ho0) hb); have n2_ := Aside0.mk (Kd.R_elder' (by (with_reducible repeat (first | apply Kd.R_alloc | apply Kd.R_drewN | apply Kd.R_drew)); exact HO_12.out) (Kd.R_base ho0) hb); have n3_ := Aside0.mk (Kd.R_elder' (by (with_reducible repeat (first | apply Kd.R_alloc | apply Kd.R_drewN | apply Kd.R_drew)); exact HO255.out) (Kd.R_base ho0) hb); have n4_ := Aside0.mk (Kd.R_elder' (by (with_reducible repeat (first | apply Kd.R_alloc | apply Kd.R_drewN | apply Kd.R_drew)); exact HO260.out) (Kd.R_base ho0) hb); have n5_ := Aside0.mk (Kd.R_lower (Kd.R_new' (Kd.R_new' (Kd.R_new' (Kd.R_new' (Kd.R_new' ho0 (Kd.R_lt (by (with_reducible repeat (first | apply Kd.R_alloc | apply Kd.R_drewN | apply Kd.R_drew)); exact HO_9.out))) (Kd.R_lt (by (with_reducible repeat (first | apply Kd.R_alloc | apply Kd.R_drewN | apply Kd.R_drew)); exact HO_11.out))) (Kd.R_lt (by (with_reducible repeat (first | apply Kd.R_alloc | apply Kd.R_drewN | apply Kd.R_drew)); exact HO_12.out))) (Kd.R_lt (by (with_reducible repeat (first | apply Kd.R_alloc | apply Kd.R_drewN | apply Kd.R_drew)); exact HO255.out))) (Kd.R_lt (by (with_reducible repeat (first | apply Kd.R_alloc | apply Kd.R_drewN | apply Kd.R_drew)); exact HO260.out))) (below_size (by repeat (first | (with_reducible first | exact HB.out | apply below_alloc | apply pw_below_drewN | apply below_drew1) | exact HB.out)))); have n6_ := Aside0.mk (below_step (by repeat (first | (with_reducible first | exact HB.out | apply below_alloc | apply pw_below_drewN | apply below_drew1) | exact HB.out)) hb); clear HO_9; clear HO_11; clear HO_12; clear HO255; clear HO260; clear HB; have HO_9 := n0_; have HO_11 := n1_; have HO_12 := n2_; have HO255 := n3_; have HO260 := n4_; have HO265 := n5_; have HB := n6_; clear n0_ n1_ n2_ n3_ n4_ n5_ n6_; (try clear hb); (try clear hb2); (try clear hk); (try clear hi); (try clear ho0)))
                                                    go_ret
                                                    exact ⟨by first | rfl | (simp [errW_none, errW_some] <;> rfl) | (simp [*, errW_none, errW_some] <;> rfl), by repeat (first | (with_reducible first | exact HB.out | apply below_alloc | apply pw_below_drewN | apply below_drew1) | exact HB.out)⟩
                                                · rw [if_neg c79] at H
                                                  exact absurd H (by simp)
                                              · rw [if_neg c76] at H
                                                exact absurd H (by simp)
                          · rw [if_neg c49] at H
                            exact absurd H (by simp)
    · rw [if_neg c10] at H
      exact absurd H (by simp)
  · replace c6 := Bool.eq_false_iff.mpr c6
    subst c6
    have H1 : (some false) = some r := by rw [if_neg (show ¬ (false = true) by decide)] at H; exact H
    exact absurd (Option.some.inj H1) (by rw [hr0.out]; exact Bool.false_ne_true)
/-- THE ONE PURE STATEMENT of airchecklaw15_TimelinePut. -/
def airchecklaw15_TimelinePut.Pure : Prop := ∀ (a0 : Int) (l1 : List (S29)) (a2_0 : Int) (a2_1 : Int) (a2_2 : Int) (a2_3 : Int) (a2_4 : Int) (a2_5 : Int) (a3 : Int), (Lit.int .i64 a0).wf = true → (l1.length ≤ maxLen ∧ l1.length * 24 ≤ 140737488351232 ∧ ∀ x ∈ l1, (fun x => Q29 x) x) → Q56 (⟨(⟨a2_0, a2_1, a2_2⟩ : S29), (⟨a2_3, a2_4, a2_5⟩ : S29)⟩ : S56) → (Lit.int .i64 a3).wf = true → ∃ k, airchecklaw15_TimelinePut.f k a0 l1 a2_0 a2_1 a2_2 a2_3 a2_4 a2_5 a3 = some true
theorem airchecklaw15_TimelinePut.walk : True := trivial

end Go.Proofs.Ytbhngbjopfjacaa.PS15
