-- PRINTED by print.py (a twelfth state) out of the translation. Not trusted: Lean checks it.
import Derived.Test.YtgaepndbfpfniaaPFRx0
import Derived.Test.YtgaepndbfpfniaaPFRx1
import Derived.Test.YtgaepndbfpfniaaPFRx2
import Derived.Test.YtgaepndbfpfniaaPFRx3
import Derived.Test.YtgaepndbfpfniaaPFRx6
import Derived.Test.YtgaepndbfpfniaaPFRx7
import Derived.Test.YtgaepndbfpfniaaPFRx13
import Derived.RangeFuncNested
import Derived.RangeFuncBound
import Derived.RangeFuncCalls
import Derived.RangeFuncLeaves
import Derived.RangeFuncBox
import Derived.Shelf.Abstract
import Derived.Shelf.RegionOpen
import Derived.OwnWalkIn
import Derived.TacticsInMore
import Derived.LoopNIn
import Derived.LoopIn
import Derived.OneCell
import Derived.BigQuiet
import Derived.Deep.RegionWith
import Derived.Deep.RegionHeld3
import Derived.Deep.RegionLaw
import Derived.IntWalk
import Derived.Lib.SliceRun
section
namespace Go.Proofs.Ytgaepndbfpfniaa.PFR
open Go.RowKit Go.Proofs.YtgaepndbfpfniaaW.PrintWords Go.Proofs.YtgaepndbfpfniaaW.PrintLast Go.Proofs.YtgaepndbfpfniaaW.PrintMore
attribute [local go_sem] max2_int min2_int max_two min_two max_three min_three max_four min_four   -- for this text's walks alone
set_option linter.unusedVariables false
set_option linter.unusedSimpArgs false

def Q34 (x : S34) : Prop := (Lit.int .i64 x.f0).wf = true ∧ (x.f1.length ≤ maxLen ∧ x.f1.length * 8 ≤ 140737488351232 ∧ ∀ y ∈ x.f1, (fun y => (Lit.int .i64 y).wf = true) y)
set_option maxRecDepth 100000 in
theorem o34 : Open.Opens Try.prog 34 k34 Q34 :=
 Open.Opens.imp (Open.opens_iso (f := (fun x : S34 => (x.f0, x.f1))) (fun a => ⟨a.1, a.2⟩) (fun _ => rfl) (Open.opens_struct (fl := [(3, 0), (22, 1)]) Try.underlying34 (by kernel_rfl) (by kernel_rfl) (Open.opensL_cons (by kernel_rfl) (Open.opens_int Try.underlying3) (Open.opensL_one (by kernel_rfl) (Open.opens_slice (B := 8) Try.underlying22 (by kernel_rfl) (by kernel_rfl) (Open.opens_int Try.underlying3)))))) (fun _ h => h)
def Q25 (x : S25) : Prop := (Lit.int .i64 x.f0).wf = true ∧ (Lit.int .i64 x.f1).wf = true ∧ (Lit.int .i64 x.f2).wf = true ∧ (Lit.int .i64 x.f3).wf = true ∧ (x.f4.length ≤ maxLen ∧ x.f4.length * 8 ≤ 140737488351232 ∧ ∀ y ∈ x.f4, (fun y => (Lit.int .i64 y).wf = true) y)
set_option maxRecDepth 100000 in
theorem o25 : Open.Opens Try.prog 25 k25 Q25 :=
 Open.Opens.imp (Open.opens_iso (f := (fun x : S25 => (x.f0, x.f1, x.f2, x.f3, x.f4))) (fun a => ⟨a.1, a.2.1, a.2.2.1, a.2.2.2.1, a.2.2.2.2⟩) (fun _ => rfl) (Open.opens_struct (fl := [(3, 0), (3, 1), (3, 2), (3, 3), (22, 4)]) Try.underlying25 (by kernel_rfl) (by kernel_rfl) (Open.opensL_cons (by kernel_rfl) (Open.opens_int Try.underlying3) (Open.opensL_cons (by kernel_rfl) (Open.opens_int Try.underlying3) (Open.opensL_cons (by kernel_rfl) (Open.opens_int Try.underlying3) (Open.opensL_cons (by kernel_rfl) (Open.opens_int Try.underlying3) (Open.opensL_one (by kernel_rfl) (Open.opens_slice (B := 8) Try.underlying22 (by kernel_rfl) (by kernel_rfl) (Open.opens_int Try.underlying3))))))))) (fun _ h => h)
def Q28 (x : S28) : Prop := (x.f0.length ≤ maxLen ∧ x.f0.length * 8 ≤ 140737488351232 ∧ ∀ y ∈ x.f0, (fun y => (Lit.int .i64 y).wf = true) y) ∧ (x.f1.length ≤ maxLen ∧ x.f1.length * 8 ≤ 140737488351232 ∧ ∀ y ∈ x.f1, (fun y => (Lit.int .i64 y).wf = true) y) ∧ (x.f2.length ≤ maxLen ∧ x.f2.length * 32 ≤ 140737488351232 ∧ ∀ y ∈ x.f2, (fun y => Q34 y) y) ∧ Q25 x.f3 ∧ (x.f4.length ≤ maxLen ∧ x.f4.length * 24 ≤ 140737488351232 ∧ ∀ y ∈ x.f4, (fun y => (y.length ≤ maxLen ∧ y.length * 8 ≤ 140737488351232 ∧ ∀ x ∈ y, (fun x => (Lit.int .i64 x).wf = true) x)) y)
set_option maxRecDepth 100000 in
theorem o28 : Open.Opens Try.prog 28 k28 Q28 :=
 Open.Opens.imp (Open.opens_iso (f := (fun x : S28 => (x.f0, x.f1, x.f2, x.f3, x.f4))) (fun a => ⟨a.1, a.2.1, a.2.2.1, a.2.2.2.1, a.2.2.2.2⟩) (fun _ => rfl) (Open.opens_struct (fl := [(22, 0), (22, 1), (23, 2), (25, 3), (26, 8)]) Try.underlying28 (by kernel_rfl) (by kernel_rfl) (Open.opensL_cons (by kernel_rfl) (Open.opens_slice (B := 8) Try.underlying22 (by kernel_rfl) (by kernel_rfl) (Open.opens_int Try.underlying3)) (Open.opensL_cons (by kernel_rfl) (Open.opens_slice (B := 8) Try.underlying22 (by kernel_rfl) (by kernel_rfl) (Open.opens_int Try.underlying3)) (Open.opensL_cons (by kernel_rfl) (Open.opens_slice (B := 32) Try.underlying23 (by kernel_rfl) (by kernel_rfl) o34) (Open.opensL_cons (by kernel_rfl) o25 (Open.opensL_one (by kernel_rfl) (Open.opens_slice (B := 24) Try.underlying26 (by kernel_rfl) (by kernel_rfl) (Open.opens_slice (B := 8) Try.underlying22 (by kernel_rfl) (by kernel_rfl) (Open.opens_int Try.underlying3)))))))))) (fun _ h => h)
def Q29 (x : S29) : Prop := (Lit.int .i64 x.f0).wf = true ∧ (Lit.int .i64 x.f1).wf = true ∧ (Lit.int .i64 x.f2).wf = true
set_option maxRecDepth 100000 in
theorem o29 : Open.Opens Try.prog 29 k29 Q29 :=
 Open.Opens.imp (Open.opens_iso (f := (fun x : S29 => (x.f0, x.f1, x.f2))) (fun a => ⟨a.1, a.2.1, a.2.2⟩) (fun _ => rfl) (Open.opens_array (fl := [(3, 0), (3, 1), (3, 2)]) Try.underlying29 (by kernel_rfl) (by kernel_rfl) (Open.opensL_cons (by kernel_rfl) (Open.opens_int Try.underlying3) (Open.opensL_cons (by kernel_rfl) (Open.opens_int Try.underlying3) (Open.opensL_one (by kernel_rfl) (Open.opens_int Try.underlying3)))))) (fun _ h => h)

end Go.Proofs.Ytgaepndbfpfniaa.PFR
end

section
namespace Go.Proofs.Ytgaepndbfpfniaa.PFR
open Go.RowKit Go.Proofs.YtgaepndbfpfniaaW.PrintWords Go.Proofs.YtgaepndbfpfniaaW.PrintLast Go.Proofs.YtgaepndbfpfniaaW.PrintMore
attribute [local go_sem] max2_int min2_int max_two min_two max_three min_three max_four min_four   -- for this text's walks alone
set_option linter.unusedVariables false
set_option linter.unusedSimpArgs false

attribute [local go_sem] Oper.semAt_some
open Go.Shelf
-- given by hand: fp12
def fp_cost1 (h c : List Int) : Option Int := (fingerprint_last.f h c true).bind slices_Min_int_int.f
def fp_costsO (h : List Int) : List S34 → Option (List Int)
 | [] => some []
 | p :: ps => (fp_cost1 h p.f1).bind fun c => (fp_costsO h ps).bind fun cs => some (c :: cs)
def fp_second (cs : List Int) : Option Int := match cs with
 | [] => some (-1)
 | x :: l => slices_Min_int_int.f (x :: l)
def fp_best2 (k : Nat) (l0 : List S34) (l1 cs : List Int) (b : Int) : Option (Int × Int × Int × Int × List Int × Int × Int) :=
 if 0 ≤ b ∧ b < (l0.length : Int) ∧ l0.length ≤ 1000 then (fingerprint_Align.f k l1 (rd_T34 l0 b).f1).bind fun a => (fp_second (cs.eraseIdx b.toNat)).bind fun s => some ((rd_T34 l0 b).f0, a.2.1, a.2.2.1, a.2.2.2.1, a.2.2.2.2.1, s, 0) else none
def fingerprint_Best.f (k : Nat) (l0 : List S34) (l1 : List Int) : Option (Int × Int × Int × Int × List Int × Int × Int) :=
 if l0.length = 0 then some (0, 0, 0, 0, [], 0, 360) else (fingerprint_Valid.f k l0).bind fun v => if v = true then (fingerprint_Heard.f l1).bind fun h => if h = true then
  (fp_costsO l1 l0).bind fun cs => (slices_Min_int_int.f cs).bind fun m => (slices_Index_int_int.f k cs m).bind fun b => fp_best2 k l0 l1 cs b
 else some (0, 0, 0, 0, [], 0, 360) else some (0, 0, 0, 0, [], 0, 360)
/-- from print i on -/
theorem fp_costsO_step {h : List Int} {l : List S34} {i : Nat} (hi : i < l.length) {cs : List Int} (e : fp_costsO h (l.drop i) = some cs) : ∃ L m c cs', fingerprint_last.f h (rd_T34 l (i : Int)).f1 true = some L ∧ slices_Min_int_int.f L = some c ∧ fp_costsO h (l.drop (i + 1)) = some cs' ∧ cs = c :: cs' ∧ m = c := by
 rw [List.drop_eq_getElem_cons hi] at e
 simp only [fp_costsO] at e
 obtain ⟨c, h1, e⟩ := Option.bind_eq_some_iff.1 e
 obtain ⟨cs', h2, e⟩ := Option.bind_eq_some_iff.1 e
 cases e
 obtain ⟨L, h3, h4⟩ := Option.bind_eq_some_iff.1 h1
 have : rd_T34 l (i : Int) = l[i] := by simp [rd_T34, hi]
 rw [this]
 exact ⟨L, c, c, cs', h3, h4, h2, rfl, rfl⟩

end Go.Proofs.Ytgaepndbfpfniaa.PFR
end
