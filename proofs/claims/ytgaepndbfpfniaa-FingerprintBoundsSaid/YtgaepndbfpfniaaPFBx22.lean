-- PRINTED by print.py (a twelfth state) out of the translation. Not trusted: Lean checks it.
import Derived.Test.YtgaepndbfpfniaaPFBx0
import Derived.Test.YtgaepndbfpfniaaPFBx14
import Derived.Test.YtgaepndbfpfniaaPFBx15
import Derived.Test.YtgaepndbfpfniaaPFBx21
import Derived.RangeFuncNested
import Derived.RangeFuncBound
import Derived.RangeFuncCalls
import Derived.RangeFuncLeaves
import Derived.RangeFuncBox
import Derived.Shelf.Abstract
import Derived.Shelf.RegionOpen
import Derived.OwnWalkIn
import Derived.TacticsInMore
import Derived.LoopNIn
import Derived.LoopIn
import Derived.OneCell
import Derived.BigQuiet
import Derived.Deep.RegionWith
import Derived.Deep.RegionHeld3
import Derived.Deep.RegionLaw
import Derived.IntWalk
import Derived.Lib.SliceRun
namespace Go.Proofs.Ytgaepndbfpfniaa.PFB
open Go.RowKit Go.Proofs.YtgaepndbfpfniaaW.PrintWords Go.Proofs.YtgaepndbfpfniaaW.PrintLast Go.Proofs.YtgaepndbfpfniaaW.PrintMore
attribute [local go_sem] max2_int min2_int max_two min_two max_three min_three max_four min_four   -- for this text's walks alone
set_option linter.unusedVariables false
set_option linter.unusedSimpArgs false

attribute [local go_sem] Oper.semAt_some
open Go.Shelf
def stop_airchecklaw36_FingerprintBounds (h c : List Int) (n : Int) (less : List (List Int)) (at0 at1 at2 : Int) (m0 m1 m2 m3 : Int) (ops : List Int) : Option Bool :=
  (airchecklaw36_pick.f at0 (less.length : Int)).bind fun i =>
  if 0 ≤ i ∧ i < (less.length : Int) then
  (airchecklaw36_pick.f at1 ((less.getD i.toNat []).length : Int)).bind fun j =>
  if 0 ≤ j ∧ j < ((less.getD i.toNat []).length : Int) then
  (fingerprint_Bound.f 100000 h c (less.set i.toNat ((less.getD i.toNat []).set j.toNat at2))).bind fun b =>
  (airchecklaw36_few.f ops 40).bind fun o =>
  (fingerprint_Check.f 100000 h c m0 m1 m2 m3 o).bind fun ck =>
  if (b.2 = true → b.1 ≤ n) ∧ (ck = true → n ≤ m3 ∧ (b.2 = true → b.1 ≤ m3)) then some true else none
  else none else none
theorem stop_bounds_inv {h c : List Int} {n : Int} {less : List (List Int)} {at0 at1 at2 m0 m1 m2 m3 : Int} {ops : List Int} {r : Bool} (e : stop_airchecklaw36_FingerprintBounds h c n less at0 at1 at2 m0 m1 m2 m3 ops = some r) :
    ∃ (i j b1 : Int) (b2 : Bool) (o : List Int) (ck : Bool), airchecklaw36_pick.f at0 (less.length : Int) = some i ∧ (0 ≤ i ∧ i < (less.length : Int)) ∧ airchecklaw36_pick.f at1 ((less.getD i.toNat []).length : Int) = some j ∧ (0 ≤ j ∧ j < ((less.getD i.toNat []).length : Int)) ∧
      fingerprint_Bound.f 100000 h c (less.set i.toNat ((less.getD i.toNat []).set j.toNat at2)) = some (b1, b2) ∧ airchecklaw36_few.f ops 40 = some o ∧ fingerprint_Check.f 100000 h c m0 m1 m2 m3 o = some ck ∧ ((b2 = true → b1 ≤ n) ∧ (ck = true → n ≤ m3 ∧ (b2 = true → b1 ≤ m3))) ∧ r = true := by
  unfold stop_airchecklaw36_FingerprintBounds at e
  obtain ⟨i, e1, e⟩ := Option.bind_eq_some_iff.1 e
  split at e
  next hi =>
    obtain ⟨j, e2, e⟩ := Option.bind_eq_some_iff.1 e
    split at e
    next hj =>
      obtain ⟨⟨b1, b2⟩, e3, e⟩ := Option.bind_eq_some_iff.1 e
      obtain ⟨o, e4, e⟩ := Option.bind_eq_some_iff.1 e
      obtain ⟨ck, e5, e⟩ := Option.bind_eq_some_iff.1 e
      split at e
      next hc => exact ⟨i, j, b1, b2, o, ck, e1, hi, e2, hj, e3, e4, e5, hc, (Option.some.inj e).symm⟩
      next hc => cases e
    next hj => cases e
  next hi => cases e
theorem bnd_both {W W' : World} {g : Nat} {x y : Int} (h : W.cell? ⟨g, 1, none⟩ = some (.int .i64 x) ∧ W.cell? ⟨g, 2, none⟩ = some (.int .i64 y)) (hb : Below W.heap.size W W') :
    W'.cell? ⟨g, 1, none⟩ = some (.int .i64 x) ∧ W'.cell? ⟨g, 2, none⟩ = some (.int .i64 y) := ⟨pw_cell_below hb h.1, pw_cell_below hb h.2⟩
/-- Number j of row i of a table of the call's own is written. -/
theorem bnd_put {W : World} {B g c i j : Nat} {ok : Nat → Prop} {T : List (List Int)} (h : Kd.S (Kd.slice 3 (Kd.int .i64)) 22 W B ok (.slice (some ⟨g, 0, none⟩) T.length c) T) (hi : i < T.length) {gr cr : Nat} (hv : W.cell? ⟨g, i, none⟩ = some (.slice (some ⟨gr, 0, none⟩) (T.getD i []).length cr)) (hj : j < (T.getD i []).length) (x : Int) :
    (W.cell? ⟨gr, j, none⟩ = some (.int .i64 (rd (T.getD i []) (j : Int))) ∧ W.frozen? ⟨gr, j, none⟩ = false) ∧
    (Kd.S (Kd.slice 3 (Kd.int .i64)) 22 (W.setCell ⟨gr, j, none⟩ (.int .i64 x)) B ok (.slice (some ⟨g, 0, none⟩) T.length c) (T.set i ((T.getD i []).set j x)) ∧ W.grownBy (W.setCell ⟨gr, j, none⟩ (.int .i64 x)) (some gr)) ∧ B ≤ gr ∧ ok gr ∧ ∃ cells, W.heap[gr]? = some (.cells cells 3 (0, 0)) := by
  obtain ⟨oki, ce, hcl, hM, hcc, hoki, hback⟩ := Kd.S_borrow h ([] : List Int) (i : Int) (by omega) (by omega)
  rw [Int.toNat_natCast] at hM hcc hback
  obtain ⟨row, hrow⟩ : ∃ row, row = T.getD i [] := ⟨_, rfl⟩
  rw [← hrow] at hM hv hj ⊢
  obtain ⟨vr, rfl, hR⟩ := hM
  have hvr := hcc 0 _ rfl
  rw [add_at, show 0 + (i * (Kd.slice 3 (Kd.int .i64)).sz + 0) = i from by show 0 + (i * 1 + 0) = _; omega] at hvr
  obtain rfl := Option.some.inj (hv.symm.trans hvr)
  obtain ⟨q1, q2⟩ := Kd.R_celln 0 hR (j : Int) (by omega) (by omega)
  have hp := Kd.R_putg hR (j : Int) x
  rw [Int.toNat_natCast] at q1 q2 hp
  obtain ⟨p1, p2⟩ := hp
  refine ⟨⟨q1, q2⟩, ⟨?_, p2⟩, Kd.R_base hR gr rfl, (hoki gr (hR.1 gr rfl)).1, Kd.R_typed hR gr rfl⟩
  exact hback p2 (fun k e => by cases e; exact hR.1 gr rfl) ⟨_, rfl, p1⟩

end Go.Proofs.Ytgaepndbfpfniaa.PFB
