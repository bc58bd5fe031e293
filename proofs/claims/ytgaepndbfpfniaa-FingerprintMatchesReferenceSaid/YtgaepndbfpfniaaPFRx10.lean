-- PRINTED by print.py (a twelfth state) out of the translation. Not trusted: Lean checks it.
import Derived.Test.YtgaepndbfpfniaaPFRx0
import Derived.Test.YtgaepndbfpfniaaPFRx3
import Derived.Test.YtgaepndbfpfniaaPFRx9
import Derived.RangeFuncNested
import Derived.RangeFuncBound
import Derived.RangeFuncCalls
import Derived.RangeFuncLeaves
import Derived.RangeFuncBox
import Derived.Shelf.Abstract
import Derived.Shelf.RegionOpen
import Derived.OwnWalkIn
import Derived.TacticsInMore
import Derived.LoopNIn
import Derived.LoopIn
import Derived.OneCell
import Derived.BigQuiet
import Derived.Deep.RegionWith
import Derived.Deep.RegionHeld3
import Derived.Deep.RegionLaw
import Derived.IntWalk
import Derived.Lib.SliceRun
namespace Go.Proofs.Ytgaepndbfpfniaa.PFR
open Go.RowKit Go.Proofs.YtgaepndbfpfniaaW.PrintWords Go.Proofs.YtgaepndbfpfniaaW.PrintLast Go.Proofs.YtgaepndbfpfniaaW.PrintMore
attribute [local go_sem] max2_int min2_int max_two min_two max_three min_three max_four min_four   -- for this text's walks alone
set_option linter.unusedVariables false
set_option linter.unusedSimpArgs false

attribute [local go_sem] Oper.semAt_some
open Go.Shelf
-- given by hand: fp8
set_option maxRecDepth 100000 in
set_option maxHeartbeats 1000000 in
theorem fp_reverse (g cap base : Nat) (l : List Int) (w : World) (h : w.ownsRow base 3 1 (.slice (some ⟨g, 0, none⟩) l.length cap) l.length (nums .i64 l)) (hb : base ≤ g) (hl : l.length ≤ 1000) :
  Calls Try.prog 63 #[.slice (some ⟨g, 0, none⟩) l.length cap] w fun e w' => e = .returned (.tuple #[]) ∧ w'.ownsRow base 3 1 (.slice (some ⟨g, 0, none⟩) l.length cap) l.length (nums .i64 l.reverse) ∧ Below base w w' := by
 have H := Aside0.mk h
 obtain ⟨n, hn⟩ : ∃ n, l.length = n := ⟨_, rfl⟩
 have e1 : IntKind.i64.wrap ((n : Int) - 1) = (n : Int) - 1 := IntWalk.i64_in _ (by omega)
 rw [hn] at H hl ⊢
 have HN := Aside0.mk hn
 clear h hn
 go_enter Try.func63, Try.ntmps63
 go_wp2
 go_loopw [2, 3] (fun p q wr => ∃ k : Nat, 2 * k ≤ n + 1 ∧ p = .int .i64 k ∧ q = .int .i64 ((n : Int) - 1 - k) ∧ Aside0 (wr.ownsRow base 3 1 (.slice (some ⟨g, 0, none⟩) n cap) n (nums .i64 (fp_rev l k))) ∧ Aside0 (Below base w wr)) (fun p _ _ => n - (intOf p).toNat)
 case atStart => exact ⟨0, by omega, rfl, by simp, ⟨by rw [fp_rev_0]; exact H.out⟩, ⟨Below.refl _ _⟩⟩
 case round =>
  obtain ⟨k, hk, rfl, rfl, HR, HB⟩ := hrel
  by_cases hlt : 2 * k + 1 < n
  ·have hj : ((n : Int) - 1 - k) = ((n - 1 - k : Nat) : Int) := by omega
   obtain ⟨j, hjj⟩ : ∃ j, n - 1 - k = j := ⟨_, rfl⟩
   rw [hj, hjj]
   have c1 : (k : Int) < (j : Int) := by omega
   have c2 : (0 : Int) ≤ k := by omega
   have c3 : (k : Int) < n := by omega
   have c4 : (0 : Int) ≤ j := by omega
   have c5 : (j : Int) < n := by omega
   obtain ⟨z1, z2⟩ := own_at HR.out (k : Int) c2 c3
   obtain ⟨y1, y2⟩ := own_at HR.out (j : Int) c4 c5
   have hg := fp_rev_get (l := l) (k := k) (by rw [HN.out]; omega)
   rw [HN.out, hjj] at hg
   rw [hg.1, Int.toNat_natCast] at z1
   rw [hg.2, Int.toNat_natCast] at y1
   rw [Int.toNat_natCast] at z2 y2
   have hs := fp_rev_step (l := l) (k := k) (by rw [HN.out]; omega)
   rw [HN.out, hjj] at hs
   obtain ⟨u, hu⟩ : ∃ u, rd l (k : Int) = u := ⟨_, rfl⟩
   obtain ⟨v, hv⟩ : ∃ v, rd l (j : Int) = v := ⟨_, rfl⟩
   rw [hu] at z1 hs
   rw [hv] at y1 hs
   have hst1 := (own_store HR.out (k : Int) v).1
   have hst2 := (own_store hst1 (j : Int) u).1
   rw [Int.toNat_natCast, Int.toNat_natCast, hs] at hst2
   have hb2 := below_drew ((HB.out.setCell (p := ⟨g, k, none⟩) hb (.int .i64 v)).setCell (p := ⟨g, j, none⟩) hb (.int .i64 u))
   have HST := Aside0.mk hst2
   have HB2 := Aside0.mk hb2
   have f2 : ∀ x, (wr.setCell ⟨g, k, none⟩ x).frozen? ⟨g, j, none⟩ = false := fun x => by rw [World.frozen?_setCell]; exact y2
   have e2 : IntKind.i64.wrap ((j : Int) - 1) = (j : Int) - 1 := IntWalk.i64_in _ (by omega)
   have HJ := Aside0.mk hjj
   clear hst1 hst2 hb2 hs hu hv hg hjj hj
   go_wp2
   go_region
   go_wp2
   go_roundw
   case rel => exact ⟨k + 1, by omega, by go_num, by have := HJ.out; go_num, HST, HB2⟩
   case measure => simp [intOf]; omega
  ·have c1 : ¬ ((k : Int) < (n : Int) - 1 - k) := by omega
   have HE := Aside0.mk (show fp_rev l k = l.reverse from fp_rev_end (by rw [HN.out]; omega))
   go_wp2
   go_end0
   exact ⟨rfl, by rw [← HE.out]; exact HR.out, HB.out⟩
set_option maxRecDepth 100000 in
set_option maxHeartbeats 1000000 in
theorem fp_reverse_nil (w : World) : Calls Try.prog 63 #[.slice none 0 0] w fun e w' => e = .returned (.tuple #[]) ∧ w = w' := by
 go_enter Try.func63, Try.ntmps63
 go_wp2
 go_loopw [2, 3] (fun p q wr => p = .int .i64 0 ∧ q = .int .i64 (-1) ∧ Aside0 (w = wr)) (fun p _ _ => 0)
 case atStart => exact ⟨rfl, rfl, ⟨rfl⟩⟩
 case round =>
  obtain ⟨rfl, rfl, HW⟩ := hrel
  go_wp2
  go_end0
  exact ⟨rfl, HW.out⟩
set_option maxRecDepth 100000 in
set_option maxHeartbeats 1000000 in
theorem fp_backwards (A0 : Option Addr) (c0 : Nat) (l0 : List Int) (w : World) (hr0 : Kd.C (Kd.int .i64) w A0 l0.length l0) (hl : l0.length ≤ 1000) :
  Calls Try.prog 59 #[.slice A0 l0.length c0] w fun e w' => ∃ v0_ : Value, e = .returned v0_ ∧ Kd.R (Kd.int .i64) 3 w' w.heap.size (fun _ => True) v0_ l0.reverse ∧ Below w.heap.size w w' := by
 have HR := Aside0.mk hr0
 have HL := Aside0.mk hl
 clear hr0 hl
 go_enter Try.func59, Try.ntmps59
 go_wp2_with fail
 refine (fp_clone _ _ l0 _ HR.out (by have := HL.out; omega)).mono ?_
 rintro e w1 ⟨v1, rfl, hR1, hB1⟩
 obtain ⟨ho⟩ : Aside0 (w1.ownsRow w.heap.size 3 1 v1 l0.length (nums .i64 l0)) := ⟨Kd.own_of_R hR1⟩
 have HB1 := Aside0.mk hB1
 rcases ho.2 with ⟨e1, e2⟩ | ⟨g, cap, cur, e1, e2, _⟩
 ·subst e1
  have HN := Aside0.mk (List.eq_nil_of_length_eq_zero e2)
  clear hR1 hB1 ho e2
  go_wp2_with fail
  refine (fp_reverse_nil _).mono ?_
  rintro e w2 ⟨rfl, rfl⟩
  go_wp2
  go_ret
  exact ⟨_, rfl, by rw [HN.out]; exact Kd.R_nil _ _ _ _ _, HB1.out⟩
 ·subst e1
  have HO := Aside0.mk ho
  have HG := Aside0.mk e2
  clear hR1 hB1 ho e2
  go_wp2_with fail
  refine (fp_reverse g cap w.heap.size l0 w1 HO.out HG.out HL.out).mono ?_
  rintro e w2 ⟨rfl, ho2, hb2⟩
  have HO2 := Aside0.mk ho2
  have HB2 := Aside0.mk (HB1.out.trans hb2)
  clear ho2 hb2
  go_wp2
  go_ret
  exact ⟨_, rfl, Kd.R_of_own (by rw [List.length_reverse]; exact HO2.out) (fun _ _ => trivial), HB2.out⟩

end Go.Proofs.Ytgaepndbfpfniaa.PFR
