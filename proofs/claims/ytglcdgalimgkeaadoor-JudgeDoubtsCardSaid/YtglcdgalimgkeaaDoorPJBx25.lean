-- PRINTED by print.py (a twelfth state) out of the translation. Not trusted: Lean checks it.
import Derived.Test.YtglcdgalimgkeaaDoorSteps
import Derived.Test.YtglcdgalimgkeaaDoorPJBx0
import Derived.Test.YtglcdgalimgkeaaDoorPJBx23
import Derived.Test.YtglcdgalimgkeaaDoorPJBx24
import Derived.RangeFuncNested
import Derived.RangeFuncBound
import Derived.RangeFuncCalls
import Derived.RangeFuncLeaves
import Derived.RangeFuncBox
import Derived.Shelf.Abstract
import Derived.Shelf.RegionOpen
import Derived.OwnWalkIn
import Derived.TacticsInMore
import Derived.LoopNIn
import Derived.LoopIn
import Derived.OneCell
import Derived.BigQuiet
import Derived.Deep.RegionWith
import Derived.Deep.RegionHeld3
import Derived.Deep.RegionLaw
import Derived.IntWalk
import Derived.Lib.SliceRun
import Derived.Deep.RegionLawGrows
namespace Go.Proofs.YtglcdgalimgkeaaDoor.PJB
open Go.RowKit Go.Proofs.YtglcdgalimgkeaaDoorW.PrintWords Go.Proofs.YtglcdgalimgkeaaDoorW.PrintLast Go.Proofs.YtglcdgalimgkeaaDoorW.PrintMore
attribute [local go_sem] max2_int min2_int max_two min_two max_three min_three max_four min_four   -- for this text's walks alone
set_option linter.unusedVariables false
set_option linter.unusedSimpArgs false

attribute [local go_sem] Oper.semAt_some
open Go.Shelf
-- given by hand: bt1
def aircheckref15_Put.T5 : Bool × List (List Nat × List Nat) := (true, [([], []), ([], []), ([], []), ([2], [2]), ([], []), ([4], [4]), ([0, 1, 3, 5, 5], [0, 1, 3, 5]), ([6, 6, 0, 1, 2, 3, 4, 5, 6], [0, 6])])
def aircheckref15_Put.B5 : List Nat := [0, 0, 0, 4, 0, 16, 63, 127]
theorem aircheckref15_Put.tab5 : rtab .any (opsOf Tryd.f64 5) = aircheckref15_Put.T5 := by kernel_rfl
theorem aircheckref15_Put.bits5 : waitsOk aircheckref15_Put.T5.2 aircheckref15_Put.B5 = true := by kernel_rfl
def aircheckref15_Put.f (k : Nat) (l0 : List S74) (a1_0 a1_1 a1_2 : Int) : Option (List S74 × Int) := (aircheckref15_Valid.f k l0).bind fun v => if v = true then (aircheckref15_end.f l0).bind fun t => if a1_0 < 0 ∨ a1_0 ≥ a1_1 ∨ a1_1 > t ∨ a1_2 < 0 ∨ a1_2 > 2999 then some ([], 150) else (aircheckref15_part.f k [] l0 0 a1_0).bind fun x => (aircheckref15_add.f x a1_0 a1_1 a1_2).bind fun y => (aircheckref15_part.f k y l0 a1_1 t).bind fun z => if 200 < z.length then some ([], 150) else some (z, 0) else some ([], 150)
set_option maxRecDepth 100000 in
set_option maxHeartbeats 4000000 in
theorem aircheckref15_Put.calls (k : Nat) (A0 : Option Addr) (c0 : Nat) (l0 : List S74) (a1_0 a1_1 a1_2 : Int) (r1 : List S74) (r2 : Int) (w : World) (hr0 : Kd.C k74 w A0 l0.length l0) (hc0 : l0.length ≤ c0) (h : aircheckref15_Put.f k l0 a1_0 a1_1 a1_2 = some (r1, r2)) :
  Calls Tryd.prog 64 #[.slice A0 l0.length c0, .agg #[.int .i64 a1_0, .int .i64 a1_1, .int .i64 a1_2]] w fun e w' => ∃ v0_ : Value, e = .returned (.tuple #[v0_, .int .i64 r2]) ∧ Kd.R k74 74 w' w.heap.size (fun _ => True) v0_ r1 ∧ Below w.heap.size w w' := by
 have hu74 := Tryd.underlying74
 have HR0 := Aside0.mk hr0
 have HC0 := Aside0.mk hc0
 have HB := Aside0.mk (Below.refl w.heap.size w)
 unfold aircheckref15_Put.f at h
 obtain ⟨v, hv, h⟩ := Option.bind_eq_some_iff.1 h
 have A3 := Aside0.mk hv
 have HH := Aside0.mk h
 clear hr0 hc0 hv h
 go_enter Tryd.func64, Tryd.ntmps64
 go_wp2_with ((with_reducible refine gate_dst (N := 3) rfl ?_); (try (refine gate_guard (by rfl) ?_; dsimp only)); refine box_event ?hg (N := 3) ?hd (cs := #[.int .i64 a1_0, .int .i64 a1_1, .int .i64 a1_2]) (t := 74) ?hr ?_; (case hd => rfl); (case hg => rfl); (case hr => first | (go_simp; done) | (go_simp; rfl)); intro gb hg W1 hbox hb; have n0_ := Aside0.mk (below_step (by exact HB.out) hb); have BK := Aside0.mk hbox; have GE := Aside0.mk (by rw [hg]; exact HB.out.size : w.heap.size ≤ gb); clear HB; have HB := n0_; clear n0_ hb hbox hg)
 have h := HH.out
 clear HH
 have hc0 : W1.cell? ⟨gb, 0, none⟩ = some (.int .i64 a1_0) := (blk_cell BK.out 0).trans rfl; have hf0 := blk_frozen BK.out 0; have hc1 : W1.cell? ⟨gb, 1, none⟩ = some (.int .i64 a1_1) := (blk_cell BK.out 1).trans rfl; have hf1 := blk_frozen BK.out 1; have hc2 : W1.cell? ⟨gb, 2, none⟩ = some (.int .i64 a1_2) := (blk_cell BK.out 2).trans rfl; have hf2 := blk_frozen BK.out 2
 cases v with
 | false =>
  obtain ⟨rfl, rfl⟩ := Prod.mk.inj (Option.some.inj (h.symm.trans (if_neg (by decide))))
  clear h
  go_quiet (first | (go_at_call 56; (with_reducible refine (aircheckref15_Valid.calls k _ _ l0 false _ ?side1 ?side2 A3.out).mono ?_); (case side1 => exact zC (Kd.C_below HR0.out HB.out)); (case side2 => exact HC0.out); rintro e w' ⟨rfl, ⟨nd, rfl⟩⟩; (try first | exact ⟨rfl, _, World.drewN_drewN _ _ _⟩ | exact ⟨rfl, _, Eq.trans (World.drewN_drewN _ _ _) (congrArg (World.drewN _) (Nat.add_assoc _ _ _))⟩)))
  go_wp2
  go_ret2
  exact ⟨_, rfl, Kd.R_nil _ _ _ _ _, (zW HB.out)⟩
 | true =>
  rw [if_pos rfl] at h
  obtain ⟨t, ht, h⟩ := Option.bind_eq_some_iff.1 h
  have A4 := Aside0.mk ht
  clear ht
  by_cases c0 : a1_0 < 0
  ·have d0 : decide (a1_0 < 0) = true := decide_eq_true c0
   rw [if_pos (by omega)] at h
   obtain ⟨rfl, rfl⟩ := Prod.mk.inj (Option.some.inj h)
   clear h c0
   go_quiet (first | (go_at_call 56; (with_reducible refine (aircheckref15_Valid.calls k _ _ l0 true _ ?side1 ?side2 A3.out).mono ?_); (case side1 => exact zC (Kd.C_below HR0.out HB.out)); (case side2 => exact HC0.out); rintro e w' ⟨rfl, ⟨nd, rfl⟩⟩; (try first | exact ⟨rfl, _, World.drewN_drewN _ _ _⟩ | exact ⟨rfl, _, Eq.trans (World.drewN_drewN _ _ _) (congrArg (World.drewN _) (Nat.add_assoc _ _ _))⟩)) | (go_at_call 50; (with_reducible refine (aircheckref15_end.calls _ _ l0 t _ ?side1 ?side2 A4.out).mono ?_); (case side1 => exact zC (Kd.C_below HR0.out HB.out)); (case side2 => exact HC0.out); rintro e w' ⟨rfl, ⟨nd, rfl⟩⟩; (try first | exact ⟨rfl, _, World.drewN_drewN _ _ _⟩ | exact ⟨rfl, _, Eq.trans (World.drewN_drewN _ _ _) (congrArg (World.drewN _) (Nat.add_assoc _ _ _))⟩)))
   go_wp2
   go_ret2
   exact ⟨_, rfl, Kd.R_nil _ _ _ _ _, (zW HB.out)⟩
  ·have d0 : decide (a1_0 < 0) = false := decide_eq_false c0
   by_cases c1 : a1_0 ≥ a1_1
   ·have d1 : decide (a1_1 ≤ a1_0) = true := decide_eq_true c1
    rw [if_pos (by omega)] at h
    obtain ⟨rfl, rfl⟩ := Prod.mk.inj (Option.some.inj h)
    clear h c1
    go_quiet (first | (go_at_call 56; (with_reducible refine (aircheckref15_Valid.calls k _ _ l0 true _ ?side1 ?side2 A3.out).mono ?_); (case side1 => exact zC (Kd.C_below HR0.out HB.out)); (case side2 => exact HC0.out); rintro e w' ⟨rfl, ⟨nd, rfl⟩⟩; (try first | exact ⟨rfl, _, World.drewN_drewN _ _ _⟩ | exact ⟨rfl, _, Eq.trans (World.drewN_drewN _ _ _) (congrArg (World.drewN _) (Nat.add_assoc _ _ _))⟩)) | (go_at_call 50; (with_reducible refine (aircheckref15_end.calls _ _ l0 t _ ?side1 ?side2 A4.out).mono ?_); (case side1 => exact zC (Kd.C_below HR0.out HB.out)); (case side2 => exact HC0.out); rintro e w' ⟨rfl, ⟨nd, rfl⟩⟩; (try first | exact ⟨rfl, _, World.drewN_drewN _ _ _⟩ | exact ⟨rfl, _, Eq.trans (World.drewN_drewN _ _ _) (congrArg (World.drewN _) (Nat.add_assoc _ _ _))⟩)))
    go_wp2
    go_ret2
    exact ⟨_, rfl, Kd.R_nil _ _ _ _ _, (zW HB.out)⟩
   ·have d1 : decide (a1_1 ≤ a1_0) = false := decide_eq_false c1
    by_cases c2 : a1_1 > t
    ·have d2 : decide (t < a1_1) = true := decide_eq_true c2
     rw [if_pos (by omega)] at h
     obtain ⟨rfl, rfl⟩ := Prod.mk.inj (Option.some.inj h)
     clear h c2
     go_quiet (first | (go_at_call 56; (with_reducible refine (aircheckref15_Valid.calls k _ _ l0 true _ ?side1 ?side2 A3.out).mono ?_); (case side1 => exact zC (Kd.C_below HR0.out HB.out)); (case side2 => exact HC0.out); rintro e w' ⟨rfl, ⟨nd, rfl⟩⟩; (try first | exact ⟨rfl, _, World.drewN_drewN _ _ _⟩ | exact ⟨rfl, _, Eq.trans (World.drewN_drewN _ _ _) (congrArg (World.drewN _) (Nat.add_assoc _ _ _))⟩)) | (go_at_call 50; (with_reducible refine (aircheckref15_end.calls _ _ l0 t _ ?side1 ?side2 A4.out).mono ?_); (case side1 => exact zC (Kd.C_below HR0.out HB.out)); (case side2 => exact HC0.out); rintro e w' ⟨rfl, ⟨nd, rfl⟩⟩; (try first | exact ⟨rfl, _, World.drewN_drewN _ _ _⟩ | exact ⟨rfl, _, Eq.trans (World.drewN_drewN _ _ _) (congrArg (World.drewN _) (Nat.add_assoc _ _ _))⟩)))
     go_wp2
     go_ret2
     exact ⟨_, rfl, Kd.R_nil _ _ _ _ _, (zW HB.out)⟩
    ·have d2 : decide (t < a1_1) = false := decide_eq_false c2
     by_cases c3 : a1_2 < 0
     ·have d3 : decide (a1_2 < 0) = true := decide_eq_true c3
      rw [if_pos (by omega)] at h
      obtain ⟨rfl, rfl⟩ := Prod.mk.inj (Option.some.inj h)
      clear h c3
      go_quiet (first | (go_at_call 56; (with_reducible refine (aircheckref15_Valid.calls k _ _ l0 true _ ?side1 ?side2 A3.out).mono ?_); (case side1 => exact zC (Kd.C_below HR0.out HB.out)); (case side2 => exact HC0.out); rintro e w' ⟨rfl, ⟨nd, rfl⟩⟩; (try first | exact ⟨rfl, _, World.drewN_drewN _ _ _⟩ | exact ⟨rfl, _, Eq.trans (World.drewN_drewN _ _ _) (congrArg (World.drewN _) (Nat.add_assoc _ _ _))⟩)) | (go_at_call 50; (with_reducible refine (aircheckref15_end.calls _ _ l0 t _ ?side1 ?side2 A4.out).mono ?_); (case side1 => exact zC (Kd.C_below HR0.out HB.out)); (case side2 => exact HC0.out); rintro e w' ⟨rfl, ⟨nd, rfl⟩⟩; (try first | exact ⟨rfl, _, World.drewN_drewN _ _ _⟩ | exact ⟨rfl, _, Eq.trans (World.drewN_drewN _ _ _) (congrArg (World.drewN _) (Nat.add_assoc _ _ _))⟩)))
      go_wp2
      go_ret2
      exact ⟨_, rfl, Kd.R_nil _ _ _ _ _, (zW HB.out)⟩
     ·have d3 : decide (a1_2 < 0) = false := decide_eq_false c3
      by_cases c4 : a1_2 > 2999
      ·have d4 : decide (2999 < a1_2) = true := decide_eq_true c4
       rw [if_pos (by omega)] at h
       obtain ⟨rfl, rfl⟩ := Prod.mk.inj (Option.some.inj h)
       clear h c4
       go_quiet (first | (go_at_call 56; (with_reducible refine (aircheckref15_Valid.calls k _ _ l0 true _ ?side1 ?side2 A3.out).mono ?_); (case side1 => exact zC (Kd.C_below HR0.out HB.out)); (case side2 => exact HC0.out); rintro e w' ⟨rfl, ⟨nd, rfl⟩⟩; (try first | exact ⟨rfl, _, World.drewN_drewN _ _ _⟩ | exact ⟨rfl, _, Eq.trans (World.drewN_drewN _ _ _) (congrArg (World.drewN _) (Nat.add_assoc _ _ _))⟩)) | (go_at_call 50; (with_reducible refine (aircheckref15_end.calls _ _ l0 t _ ?side1 ?side2 A4.out).mono ?_); (case side1 => exact zC (Kd.C_below HR0.out HB.out)); (case side2 => exact HC0.out); rintro e w' ⟨rfl, ⟨nd, rfl⟩⟩; (try first | exact ⟨rfl, _, World.drewN_drewN _ _ _⟩ | exact ⟨rfl, _, Eq.trans (World.drewN_drewN _ _ _) (congrArg (World.drewN _) (Nat.add_assoc _ _ _))⟩)))
       go_wp2
       go_ret2
       exact ⟨_, rfl, Kd.R_nil _ _ _ _ _, (zW HB.out)⟩
      ·have d4 : decide (2999 < a1_2) = false := decide_eq_false c4
       rw [if_neg (by omega)] at h
       clear c0 c1 c2 c3 c4
       obtain ⟨x, hx, h⟩ := Option.bind_eq_some_iff.1 h
       obtain ⟨y, hy, h⟩ := Option.bind_eq_some_iff.1 h
       obtain ⟨z, hz, h⟩ := Option.bind_eq_some_iff.1 h
       have AX := Aside0.mk hx
       have AY := Aside0.mk hy
       have AZ := Aside0.mk hz
       have HH := Aside0.mk h
       clear hx hy hz h
       go_quiet (first | (go_at_call 56; (with_reducible refine (aircheckref15_Valid.calls k _ _ l0 true _ ?side1 ?side2 A3.out).mono ?_); (case side1 => exact zC (Kd.C_below HR0.out HB.out)); (case side2 => exact HC0.out); rintro e w' ⟨rfl, ⟨nd, rfl⟩⟩; (try first | exact ⟨rfl, _, World.drewN_drewN _ _ _⟩ | exact ⟨rfl, _, Eq.trans (World.drewN_drewN _ _ _) (congrArg (World.drewN _) (Nat.add_assoc _ _ _))⟩)) | (go_at_call 50; (with_reducible refine (aircheckref15_end.calls _ _ l0 t _ ?side1 ?side2 A4.out).mono ?_); (case side1 => exact zC (Kd.C_below HR0.out HB.out)); (case side2 => exact HC0.out); rintro e w' ⟨rfl, ⟨nd, rfl⟩⟩; (try first | exact ⟨rfl, _, World.drewN_drewN _ _ _⟩ | exact ⟨rfl, _, Eq.trans (World.drewN_drewN _ _ _) (congrArg (World.drewN _) (Nat.add_assoc _ _ _))⟩)))
       go_wp2_with (first | ((with_reducible refine gate_callee (f := 88) rfl ?_); refine goesL_ (some 42) rfl rfl Tryd.func88 (by kernel_rfl) rfl #[.slice none 0 0, .slice A0 l0.length c0, .int .i64 0, .int .i64 a1_0] rfl (by (try simp only [List.map_toArray, List.map_cons, List.map_nil]); first | done | rfl) ?_; (refine (aircheckref15_part.calls k (fun k_ => some k_ = (.slice none 0 0 : Value).ownBlock) (.slice none 0 0) ([] : List S74) _ _ l0 0 a1_0 x w _ ?side1 ?side2 ?side3 ?side4 AX.out).mono ?_); (case side1 => exact (zW HB.out)); (case side2 => exact Kd.R_nil _ _ _ _ _); (case side3 => exact Kd.C_kept_came k74_heap HR0.out (zW HB.out) (fun k_ hs_ => (fun e_ => by simp [Value.ownBlock] at e_) hs_)); (case side4 => exact HC0.out); rintro e W2 ⟨v2, rfl, ho0, hb, hkp⟩; refine ⟨_, rfl, ?_⟩; have n0_ := Aside0.mk (blk_kept (blk_drewN BK.out _) hkp (fun hs_ => (fun e_ => by simp [Value.ownBlock] at e_) hs_)); have HX := Aside0.mk (Kd.R_mono (ok' := fun k_ => k_ ≠ gb) ho0 (fun k_ hk_ => Or.elim hk_ (fun hs_ => absurd hs_ (by simp [Value.ownBlock])) (fun hn_ => (Kd.freshB (g := gb) (o := .cells #[.int .i64 a1_0, .int .i64 a1_1, .int .i64 a1_2] 74 (0, 0)) (blk_drewN BK.out _) k_ hn_)))); have n2_ := Aside0.mk hb; clear hc0 hf0 hc1 hf1 hc2 hf2 BK HB hb hkp ho0; have BK := n0_; have HB := n2_; clear n0_ n2_; have hc0 : W2.cell? ⟨gb, 0, none⟩ = some (.int .i64 a1_0) := (blk_cell BK.out 0).trans rfl; have hf0 := blk_frozen BK.out 0; have hc1 : W2.cell? ⟨gb, 1, none⟩ = some (.int .i64 a1_1) := (blk_cell BK.out 1).trans rfl; have hf1 := blk_frozen BK.out 1; have hc2 : W2.cell? ⟨gb, 2, none⟩ = some (.int .i64 a1_2) := (blk_cell BK.out 2).trans rfl; have hf2 := blk_frozen BK.out 2; obtain ⟨A2, c2, eo2⟩ := Kd.R_slice HX.out; subst eo2) | ((with_reducible refine gate_callee (f := 89) rfl ?_); refine goesL_ (some 45) rfl rfl Tryd.func89 (by kernel_rfl) rfl #[.slice A2 x.length c2, .agg #[.int .i64 a1_0, .int .i64 a1_1, .int .i64 a1_2]] rfl (by (try simp only [List.map_toArray, List.map_cons, List.map_nil]); first | done | rfl) ?_; (refine (aircheckref15_add.calls (fun k_ => some k_ = (.slice A2 x.length c2 : Value).ownBlock) (.slice A2 x.length c2) x a1_0 a1_1 a1_2 y w _ ?side1 ?side2 AY.out).mono ?_); (case side1 => exact (zW HB.out)); (case side2 => exact Kd.R_tight rfl HX.out); rintro e W3 ⟨v3, rfl, ho0, hb, hkp⟩; refine ⟨_, rfl, ?_⟩; have n0_ := Aside0.mk (blk_kept (zB BK.out) hkp (fun hs_ => (fun e_ => (Kd.R_away HX.out (fun _ hk => hk)) e_) hs_)); have HY := Aside0.mk (Kd.R_mono (ok' := fun k_ => k_ ≠ gb) ho0 (fun k_ hk_ => Or.elim hk_ (fun hs_ => fun e_ => (Kd.R_away HX.out (fun _ hk => hk)) (by rw [← e_]; exact hs_)) (fun hn_ => (Kd.freshB (g := gb) (o := .cells #[.int .i64 a1_0, .int .i64 a1_1, .int .i64 a1_2] 74 (0, 0)) (zB BK.out) k_ hn_)))); have n2_ := Aside0.mk hb; clear hc0 hf0 hc1 hf1 hc2 hf2 BK HB hb hkp ho0 HX; have BK := n0_; have HB := n2_; clear n0_ n2_; obtain ⟨A3', c3', eo3⟩ := Kd.R_slice HY.out; subst eo3))
       have n0_ := Aside0.mk (Kd.R_drew HY.out)
       have n1_ := Aside0.mk (blk_drew BK.out)
       have n2_ := Aside0.mk (below_drew1 HB.out)
       clear HY BK HB
       have HY := n0_
       have BK := n1_
       have HB := n2_
       clear n0_ n1_ n2_
       refine start_ (n := 8) (S := fun w' => w'.cell? ⟨gb, 0, none⟩ = some (.int .i64 a1_0) ∧ w'.cell? ⟨gb, 1, none⟩ = some (.int .i64 a1_1) ∧ w'.cell? ⟨gb, 2, none⟩ = some (.int .i64 a1_2)) (ds := []) (bz 8 0) (by kernel_rfl) rfl rfl ⟨(blk_cell BK.out 0).trans rfl, (blk_cell BK.out 1).trans rfl, (blk_cell BK.out 2).trans rfl⟩ (fun hHeld => ?_); refine with_tabW aircheckref15_Put.tab5 aircheckref15_Put.bits5 (fun HT_ HW_ => ?_)
       generalize W3.drew = W4 at HY BK HB hHeld ⊢
       refine zP 0 (some 46) (bz 8 1) HT_ ?_
       refine zP 1 (some 47) (bz 8 3) HT_ ?_
       refine zP 2 (some 48) (bz 8 7) HT_ ?_
       refine zP 4 (some 50) (bz 8 23) HT_ ?_
       refine zT 3 (some 49) (bz 8 31) HT_ HW_ hHeld (v := ?_) ?_ ?_
       rotate_left
       ·rintro w' ⟨s0, s1, s2⟩; go_simp; with_reducible rfl
       refine one_ (i := 5) (N := some 51) (bz 8 63) rfl rfl (one_of HT_.out (by kernel_rfl)) (by decide) (fun K hK => ?_)
       refine goes_ Tryd.func50 (by kernel_rfl) rfl #[.slice A0 l0.length c0] (by rfl) rfl rfl (by (try simp only [List.map_toArray, List.map_cons, List.map_nil]); first | done | rfl) ?_
       refine (aircheckref15_end.calls _ _ l0 t _ (Kd.C_below HR0.out HB.out) HC0.out A4.out).mono ?_
       rintro e w' ⟨rfl, ⟨nd, rfl⟩⟩
       refine ⟨_, rfl, ?_⟩
       refine hK.out _ _ ⟨(blk_cell BK.out 0).trans rfl, (blk_cell BK.out 1).trans rfl, (blk_cell BK.out 2).trans rfl⟩ (fun hHeld => ?_)
       clear hK K
       refine norm_ (a' := ?_) ?_ ?_
       rotate_left
       ·show Act.put _ (some 51) _ = _; simp only [Act.put, List.setIfInBounds_toArray, List.set_cons_zero, List.set_cons_succ, i64_w, i32_w]; rfl
       refine one_ (i := 6) (N := some 52) (bz 8 127) rfl rfl (one_of HT_.out (by kernel_rfl)) (by decide) (fun K hK => ?_)
       refine goes_ Tryd.func88 (by kernel_rfl) rfl #[.slice A3' y.length c3', .slice A0 l0.length c0, .int .i64 a1_1, .int .i64 t] (by rfl) rfl rfl (by (try simp only [List.map_toArray, List.map_cons, List.map_nil]); first | done | rfl) ?_
       refine (aircheckref15_part.calls k (fun k_ => some k_ = (.slice A3' y.length c3' : Value).ownBlock) (.slice A3' y.length c3') y _ _ l0 a1_1 t z w _ ?side1 ?side2 ?side3 ?side4 AZ.out).mono ?_
       (case side1 => exact (zW HB.out))
       (case side2 => exact Kd.R_tight rfl (zR HY.out))
       (case side3 => exact Kd.C_kept_came k74_heap HR0.out (zW HB.out) (fun k_ hs_ => (fun e_ => Kd.R_base HY.out k_ e_.symm) hs_))
       (case side4 => exact HC0.out)
       rintro e W5 ⟨v5, rfl, ho0, hb, hkp⟩
       refine ⟨_, rfl, ?_⟩
       have n0_ := Aside0.mk (blk_kept (zB BK.out) hkp (fun hs_ => (fun e_ => (Kd.R_away HY.out (fun _ hk => hk)) e_) hs_))
       have HZ := Aside0.mk (Kd.R_mono (ok' := fun k_ => True) ho0 (fun _ _ => trivial))
       have n2_ := Aside0.mk hb
       clear BK HB HY hb hkp ho0
       have BK := n0_
       have HB := n2_
       clear n0_ n2_
       refine hK.out _ _ ⟨(blk_cell BK.out 0).trans rfl, (blk_cell BK.out 1).trans rfl, (blk_cell BK.out 2).trans rfl⟩ (fun hHeld => ?_)
       clear hK K
       refine norm_ (a' := ?_) ?_ ?_
       rotate_left
       ·show Act.put _ (some 52) _ = _; simp only [Act.put, List.setIfInBounds_toArray, List.set_cons_zero, List.set_cons_succ, i64_w, i32_w]; rfl
       refine zP 7 (some 6) (bz 8 255) HT_ ?_
       refine done_ (done_of HT_.out (by kernel_rfl)) ?_
       obtain ⟨A5, c5, eo5⟩ := Kd.R_slice HZ.out
       subst eo5
       have h := HH.out
       clear HH
       by_cases cz : 200 < z.length
       ·rw [if_pos cz] at h
        obtain ⟨rfl, rfl⟩ := Prod.mk.inj (Option.some.inj h)
        have cz0 : decide (200 < (z.length : Int)) = true := decide_eq_true (by omega)
        clear cz h
        go_wp2
        go_ret2
        exact ⟨_, rfl, Kd.R_nil _ _ _ _ _, (zW HB.out)⟩
       ·rw [if_neg cz] at h
        obtain ⟨rfl, rfl⟩ := Prod.mk.inj (Option.some.inj h)
        have cz0 : decide (200 < (z.length : Int)) = false := decide_eq_false (by omega)
        clear cz h
        go_wp2
        go_ret2
        exact ⟨_, rfl, by (with_reducible repeat (first | apply Kd.R_alloc | apply Kd.R_drewN | apply Kd.R_drew)); exact Kd.R_mono HZ.out (fun _ _ => trivial), (zW HB.out)⟩

end Go.Proofs.YtglcdgalimgkeaaDoor.PJB
