-- PRINTED by print.py (a twelfth state) out of the translation. Not trusted: Lean checks it.
import Derived.Test.YtgaepndbfpfniaaPFRx0
import Derived.Test.YtgaepndbfpfniaaPFRx1
import Derived.RangeFuncNested
import Derived.RangeFuncBound
import Derived.RangeFuncCalls
import Derived.RangeFuncLeaves
import Derived.RangeFuncBox
import Derived.Shelf.Abstract
import Derived.Shelf.RegionOpen
import Derived.OwnWalkIn
import Derived.TacticsInMore
import Derived.LoopNIn
import Derived.LoopIn
import Derived.OneCell
import Derived.BigQuiet
import Derived.Deep.RegionWith
import Derived.Deep.RegionHeld3
import Derived.Deep.RegionLaw
import Derived.IntWalk
import Derived.Lib.SliceRun
namespace Go.Proofs.Ytgaepndbfpfniaa.PFR
open Go.RowKit Go.Proofs.YtgaepndbfpfniaaW.PrintWords Go.Proofs.YtgaepndbfpfniaaW.PrintLast Go.Proofs.YtgaepndbfpfniaaW.PrintMore
attribute [local go_sem] max2_int min2_int max_two min_two max_three min_three max_four min_four   -- for this text's walks alone
set_option linter.unusedVariables false
set_option linter.unusedSimpArgs false

attribute [local go_sem] Oper.semAt_some
open Go.Shelf
-- given by hand: fp2
def fp_minF (m : Int) (l : List Int) : Int := l.foldl (fun a b => if b < a then b else a) m
def slices_Min_int_int.f (l0 : List Int) : Option Int := match l0 with
 | [] => none
 | x :: l => some (fp_minF x l)
theorem fp_minF_snoc {l : List Int} {m : Int} {k : Nat} (h : k < l.length) : fp_minF m (l.drop k) = fp_minF (if rd l (k : Int) < m then rd l (k : Int) else m) (l.drop (k + 1)) := by
 rw [fp_rd h]
 rfl
set_option maxRecDepth 100000 in
set_option maxHeartbeats 1000000 in
theorem slices_Min_int_int.calls (A0 : Option Addr) (c0 : Nat) (l0 : List Int) (r : Int) (w : World) (hr0 : Kd.C (Kd.int .i64) w A0 l0.length l0) (hc0 : l0.length ≤ c0) (h : slices_Min_int_int.f l0 = some r) :
  Calls Try.prog 45 #[.slice A0 l0.length c0] w fun e w' => e = .returned (.int .i64 r) ∧ Below w.heap.size w w' := by
 have hn := hr0.2.1
 have h0 : 0 < l0.length := by
  cases l0 with
  | nil => cases h
  | cons _ _ => simp
 have hrr : r = fp_minF (rd l0 0) (l0.drop 1) := by
  cases l0 with
  | nil => cases h
  | cons x l => exact (Option.some.inj h).symm
 have d1 : decide ((l0.length : Int) < 1) = false := decide_eq_false (by omega)
 have d2 : decide (l0.length < 1) = false := decide_eq_false (by omega)
 have d3 : ¬ (l0 = []) := fun e => by rw [e] at h0; cases h0
 obtain ⟨ad, rfl, hx0⟩ := Kd.at_int hr0 0 (Int.le_refl _) (by omega)
 have HR := Aside0.mk hr0
 have HRR := Aside0.mk hrr
 have h0' : (0 : Int) < l0.length := by omega
 clear hr0 hc0 h hrr
 rw [show ad.add (Int.toNat 0) = ad from by simp [Addr.add]] at hx0
 go_enter Try.func45, Try.ntmps45
 go_wp2
 go_loop [3, 4] (fun m i => ∃ k : Nat, ∃ u : Int, 1 ≤ k ∧ k ≤ l0.length ∧ i = .int .i64 k ∧ m = .int .i64 u ∧ Aside0 (r = fp_minF u (l0.drop k))) (fun _ i => l0.length - (intOf i).toNat)
 case atStart => exact ⟨1, _, Nat.le_refl _, h0, rfl, rfl, ⟨HRR.out⟩⟩
 case round =>
  obtain ⟨k, u, hk0, hk, rfl, rfl, HE⟩ := hrel
  by_cases hlt : k < l0.length
  ·have hk1 : (k : Int) < l0.length := by omega
   have hk2 : (0 : Int) ≤ k := by omega
   obtain ⟨ad2, e2, hx⟩ := Kd.at_int HR.out (k : Int) hk2 hk1
   obtain rfl := Option.some.inj e2
   have hstep := fp_minF_snoc (m := u) hlt
   obtain ⟨x, hx'⟩ : ∃ x, rd l0 ↑k = x := ⟨_, rfl⟩
   rw [hx'] at hx hstep
   rw [Int.toNat_natCast] at hx
   have HS := Aside0.mk hstep
   clear hx' hstep e2
   go_wp2
   go_round
   case rel => exact ⟨k + 1, _, by omega, by omega, by go_num, rfl, ⟨by rw [HE.out, HS.out]⟩⟩
   case measure => simp [intOf]; omega
  ·go_wp2
   go_ret
   refine ⟨?_, Below.refl _ _⟩
   rw [HE.out, List.drop_eq_nil_of_le (by omega)]
   rfl
theorem fp_C_none {w : World} {n : Nat} {l : List Int} (h : Kd.C (Kd.int .i64) w none n l) (hl : n = l.length) : l = [] := by
 cases l with
 | nil => rfl
 | cons x l =>
  obtain ⟨ad, e, _⟩ := Kd.at_int h 0 (Int.le_refl _) (by rw [hl]; simp)
  cases e
def slices_Clone_int_int.f (l0 : List Int) : Option (List Int) := some l0
set_option maxRecDepth 100000 in
set_option maxHeartbeats 1000000 in
theorem fp_clone (A0 : Option Addr) (c0 : Nat) (l0 : List Int) (w : World) (hr0 : Kd.C (Kd.int .i64) w A0 l0.length l0) (hl : l0.length ≤ 100000) :
  Calls Try.prog 52 #[.slice A0 l0.length c0] w fun e w' => ∃ v0_ : Value, e = .returned v0_ ∧ Kd.R (Kd.int .i64) 3 w' w.heap.size (fun _ => True) v0_ l0 ∧ Below w.heap.size w w' := by
 cases A0 with
 | none =>
  obtain rfl := fp_C_none hr0 rfl
  clear hr0
  simp only [List.length_nil]
  have heq : ∀ W : World, (binOp .eql 22 (.slice none 0 c0) (.slice none 0 0)).run Try.prog W = .ok (.bool true) W := fun W => Lib.run_eql_slice_nil W 22 3 none _ c0 0 0 Try.underlying22
  go_enter Try.func52, Try.ntmps52
  go_wp2
  go_ret
  exact ⟨_, rfl, Kd.R_nil _ _ _ _ _, Below.refl _ _⟩
 | some ad =>
  have HR := Aside0.mk hr0
  have HL := Aside0.mk hl
  clear hr0 hl
  have heq : ∀ W : World, (binOp .eql 22 (.slice (some ad) l0.length c0) (.slice none 0 0)).run Try.prog W = .ok (.bool false) W := fun W => Lib.run_eql_slice_nil W 22 3 (some ad) _ c0 0 0 Try.underlying22
  go_enter Try.func52, Try.ntmps52
  go_wp2_with (first | ((with_reducible refine gate_dst (N := 5) rfl ?_); refine Kd.R_lit (Kd.int .i64) w.heap.size 3 ?hg (N := 5) ?hd (xs := ([] : List Int)) (inner := []) (ok := fun _ => True) (okp := fun _ => True) ?hr ?hp (fun _ hk => hk) trivial (Below.refl _ _) (Nat.le_refl _) (by simp) ?_; (case hd => rfl); (case hg => rfl); (case hr => first | (go_simp; done) | (go_simp; rfl)); (case hp => exact (Reps.none _ _)); intro v1 w1 ho hb hg_ hnew_; clear hg_ hnew_; have HO := Aside0.mk ho; have HB := Aside0.mk hb; clear ho hb) | (at_builtin; refine Kd.R_append_row (fun x : Int => Value.int .i64 x) 0 (h1 := fun _ => rfl) (w0 := w) w.heap.size rfl (.tmp 5) (.tmp 6) 22 3 (.int .i64 0) 8 rfl Try.underlying22 info3 rfl (by decide) v1 [] l0 (some ad) l0.length c0 (fun _ => True) rfl rfl (fun _ _ => trivial) HO.out (Kd.C_below HR.out HB.out) HB.out HB.out.size (by have := HL.out; simp; omega) ?_; intro v2 w2 ho2 hb2 _ _; have HO2 := Aside0.mk ho2; have HB2 := Aside0.mk hb2; clear ho2 hb2))
  go_ret
  exact ⟨_, rfl, HO2.out, HB2.out⟩

end Go.Proofs.Ytgaepndbfpfniaa.PFR
