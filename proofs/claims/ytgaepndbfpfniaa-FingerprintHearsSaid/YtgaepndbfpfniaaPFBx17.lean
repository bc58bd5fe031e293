-- PRINTED by print.py (a twelfth state) out of the translation. Not trusted: Lean checks it.
import Derived.Test.YtgaepndbfpfniaaPFBx0
import Derived.Test.YtgaepndbfpfniaaPFBx1
import Derived.Test.YtgaepndbfpfniaaPFBx2
import Derived.Test.YtgaepndbfpfniaaPFBx3
import Derived.Test.YtgaepndbfpfniaaPFBx6
import Derived.Test.YtgaepndbfpfniaaPFBx7
import Derived.Test.YtgaepndbfpfniaaPFBx13
import Derived.RangeFuncNested
import Derived.RangeFuncBound
import Derived.RangeFuncCalls
import Derived.RangeFuncLeaves
import Derived.RangeFuncBox
import Derived.Shelf.Abstract
import Derived.Shelf.RegionOpen
import Derived.OwnWalkIn
import Derived.TacticsInMore
import Derived.LoopNIn
import Derived.LoopIn
import Derived.OneCell
import Derived.BigQuiet
import Derived.Deep.RegionWith
import Derived.Deep.RegionHeld3
import Derived.Deep.RegionLaw
import Derived.IntWalk
import Derived.Lib.SliceRun
namespace Go.Proofs.Ytgaepndbfpfniaa.PFB
open Go.RowKit Go.Proofs.YtgaepndbfpfniaaW.PrintWords Go.Proofs.YtgaepndbfpfniaaW.PrintLast Go.Proofs.YtgaepndbfpfniaaW.PrintMore
attribute [local go_sem] max2_int min2_int max_two min_two max_three min_three max_four min_four   -- for this text's walks alone
set_option linter.unusedVariables false
set_option linter.unusedSimpArgs false

attribute [local go_sem] Oper.semAt_some
open Go.Shelf
-- given by hand: fp12
def fp_cost1 (h c : List Int) : Option Int := (fingerprint_last.f h c true).bind slices_Min_int_int.f
def fp_costsO (h : List Int) : List S34 → Option (List Int)
  | [] => some []
  | p :: ps => (fp_cost1 h p.f1).bind fun c => (fp_costsO h ps).bind fun cs => some (c :: cs)
def fp_second (cs : List Int) : Option Int := match cs with
  | [] => some (-1)
  | x :: l => slices_Min_int_int.f (x :: l)
def fp_best2 (k : Nat) (l0 : List S34) (l1 cs : List Int) (b : Int) : Option (Int × Int × Int × Int × List Int × Int × Int) :=
  if 0 ≤ b ∧ b < (l0.length : Int) ∧ l0.length ≤ 1000 then (fingerprint_Align.f k l1 (rd_T34 l0 b).f1).bind fun a => (fp_second (cs.eraseIdx b.toNat)).bind fun s => some ((rd_T34 l0 b).f0, a.2.1, a.2.2.1, a.2.2.2.1, a.2.2.2.2.1, s, 0) else none
def fingerprint_Best.f (k : Nat) (l0 : List S34) (l1 : List Int) : Option (Int × Int × Int × Int × List Int × Int × Int) :=
  if l0.length = 0 then some (0, 0, 0, 0, [], 0, 360) else (fingerprint_Valid.f k l0).bind fun v => if v = true then (fingerprint_Heard.f l1).bind fun h => if h = true then
    (fp_costsO l1 l0).bind fun cs => (slices_Min_int_int.f cs).bind fun m => (slices_Index_int_int.f k cs m).bind fun b => fp_best2 k l0 l1 cs b
  else some (0, 0, 0, 0, [], 0, 360) else some (0, 0, 0, 0, [], 0, 360)
theorem fp_best2_mono (l0 : List S34) (l1 cs : List Int) (b : Int) (k : Nat) : LeO (fp_best2 k l0 l1 cs b) (fp_best2 (k + 1) l0 l1 cs b) := by
  unfold fp_best2
  repeat' first
    | (with_reducible exact LeO.refl _)
    | (with_reducible exact LeO.none _)
    | exact fingerprint_Align.mono _ _ _
    | (with_reducible refine LeO.ite ?_ ?_)
    | (with_reducible refine LeO.bind ?_ (fun _ => ?_))
theorem fingerprint_Best.mono : ∀ a0 a1 k, LeO (fingerprint_Best.f k a0 a1) (fingerprint_Best.f (k + 1) a0 a1) := by
  intro a0 a1 k
  unfold fingerprint_Best.f
  repeat' first
    | (with_reducible exact LeO.refl _)
    | (with_reducible exact LeO.none _)
    | exact fp_best2_mono _ _ _ _ _
    | exact fingerprint_Valid.mono _ _
    | exact slices_Index_int_int.mono _ _ _
    | (with_reducible refine LeO.ite ?_ ?_)
    | (with_reducible refine LeO.bind ?_ (fun _ => ?_))
theorem fp_costsO_length {h : List Int} : ∀ {l : List S34} {cs : List Int}, fp_costsO h l = some cs → cs.length = l.length
  | [], cs, e => by cases e; rfl
  | p :: ps, cs, e => by
    simp only [fp_costsO] at e
    obtain ⟨c, _, e⟩ := Option.bind_eq_some_iff.1 e
    obtain ⟨cs', h2, e⟩ := Option.bind_eq_some_iff.1 e
    cases e
    simp [fp_costsO_length h2]
/-- from print i on -/
theorem fp_costsO_step {h : List Int} {l : List S34} {i : Nat} (hi : i < l.length) {cs : List Int} (e : fp_costsO h (l.drop i) = some cs) : ∃ L m c cs', fingerprint_last.f h (rd_T34 l (i : Int)).f1 true = some L ∧ slices_Min_int_int.f L = some c ∧ fp_costsO h (l.drop (i + 1)) = some cs' ∧ cs = c :: cs' ∧ m = c := by
  rw [List.drop_eq_getElem_cons hi] at e
  simp only [fp_costsO] at e
  obtain ⟨c, h1, e⟩ := Option.bind_eq_some_iff.1 e
  obtain ⟨cs', h2, e⟩ := Option.bind_eq_some_iff.1 e
  cases e
  obtain ⟨L, h3, h4⟩ := Option.bind_eq_some_iff.1 h1
  have : rd_T34 l (i : Int) = l[i] := by simp [rd_T34, hi]
  rw [this]
  exact ⟨L, c, c, cs', h3, h4, h2, rfl, rfl⟩

end Go.Proofs.Ytgaepndbfpfniaa.PFB
