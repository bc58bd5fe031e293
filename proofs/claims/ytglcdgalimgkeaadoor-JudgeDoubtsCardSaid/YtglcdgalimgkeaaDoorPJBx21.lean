-- PRINTED by print.py (a twelfth state) out of the translation. Not trusted: Lean checks it.
import Derived.Test.YtglcdgalimgkeaaDoorSteps
import Derived.Test.YtglcdgalimgkeaaDoorPJBx0
namespace Go.Proofs.YtglcdgalimgkeaaDoor.PJB
open Go.RowKit Go.Proofs.YtglcdgalimgkeaaDoorW.PrintWords Go.Proofs.YtglcdgalimgkeaaDoorW.PrintLast Go.Proofs.YtglcdgalimgkeaaDoorW.PrintMore
attribute [local go_sem] max2_int min2_int max_two min_two max_three min_three max_four min_four   -- for this text's walks alone
set_option linter.unusedVariables false
set_option linter.unusedSimpArgs false

/-- Two rows that differ at the second verdict lie in two blocks. -/
theorem ex_apart {W : World} {base : Nat} {ok1 ok2 : Nat → Prop} {v1 v2 : Value} {xs ys : List S54} (h1 : Kd.R k54 54 W base ok1 v1 xs) (h2 : Kd.R k54 54 W base ok2 v2 ys) (hn : (1 : Int) < xs.length) (hm : (1 : Int) < ys.length) (hne : (rd_T54 xs 1).f0 ≠ (rd_T54 ys 1).f0) : Kd.R k54 54 W base (fun k_ => some k_ ≠ v2.ownBlock) v1 xs := by
 refine Kd.R_reok rfl h1 (fun k hk hk2 => hne ?_)
 obtain ⟨_, _, ho1, _⟩ := id h1
 obtain ⟨_, _, ho2, _⟩ := id h2
 rcases ho1.2 with ⟨rfl, h0⟩ | ⟨g1, c1, cur1, rfl, _⟩
 ·simp [Value.ownBlock] at hk
 rcases ho2.2 with ⟨rfl, h0⟩ | ⟨g2, c2, cur2, rfl, _⟩
 ·simp [Value.ownBlock] at hk2
 have e1 : g1 = k := by simpa [Value.ownBlock] using hk
 have e2 : k = g2 := by simpa [Value.ownBlock] using hk2
 obtain rfl := e1
 obtain rfl := e2
 obtain ⟨ad, ea, ca, _⟩ := at_T54 (Kd.R_reads' h1).2.2 1 (by decide) hn
 obtain ⟨ad2, eb, cb, _⟩ := at_T54 (Kd.R_reads' h2).2.2 1 (by decide) hm
 obtain rfl : ad = ad2 := Option.some.inj (ea.symm.trans eb)
 have e3 := ca.symm.trans cb
 simpa using e3
/-! ### airchecklaw38_example: function 45 -/
def airchecklaw38_example.f  : Option ((List (S74)) × (List (S54)) × (List (S54))) := some ((([(⟨0, 10, 4⟩ : S74), (⟨10, 20, 0⟩ : S74)] : List (S74))), (([(⟨1, 3⟩ : S54), (⟨1, 3⟩ : S54), (⟨2, 0⟩ : S54), (⟨1, 8⟩ : S54), (⟨3, 0⟩ : S54)] : List (S54))), (([(⟨1, 3⟩ : S54), (⟨3, 0⟩ : S54), (⟨2, 0⟩ : S54), (⟨1, 8⟩ : S54), (⟨1, 8⟩ : S54)] : List (S54))))
def airchecklaw38_example.T6 : Bool × List (List Nat × List Nat) := (true, [([], []), ([], []), ([], []), ([], []), ([], []), ([], []), ([1, 2, 3, 4, 5], [1, 2, 3, 4, 5]), ([], []), ([], []), ([], []), ([], []), ([], []), ([7, 8, 9, 10, 11], [7, 8, 9, 10, 11]), ([0, 0], [0]), ([6, 13, 0, 1, 2, 3, 4, 5, 6, 13], [6]), ([12, 14, 0, 1, 2, 3, 4, 5, 6, 7, 8, 9, 10, 11, 12, 13, 14], [12])])
def airchecklaw38_example.B6 : List Nat := [0, 0, 0, 0, 0, 0, 62, 0, 0, 0, 0, 0, 3968, 1, 8319, 32767]
theorem airchecklaw38_example.tab6 : rtab .any (opsOf Tryd.f45 6) = airchecklaw38_example.T6 := by kernel_rfl
theorem airchecklaw38_example.bits6 : waitsOk airchecklaw38_example.T6.2 airchecklaw38_example.B6 = true := by kernel_rfl
set_option maxHeartbeats 8000000 in
set_option maxRecDepth 100000 in
theorem airchecklaw38_example.calls  (r1 : List (S74)) (r2 : List (S54)) (r3 : List (S54)) (w : World) (h : airchecklaw38_example.f  = some (r1, r2, r3)) :
  Calls Tryd.prog 45 #[] w fun e w' => ∃ v0_ v1_ v2_ : Value, e = .returned (.tuple #[v0_, v1_, v2_]) ∧ Kd.R k74 74 w' w.heap.size (fun _ => True) v0_ r1 ∧ Kd.R k54 54 w' w.heap.size (fun k_ => some k_ ≠ (v2_ : Value).ownBlock) v1_ r2 ∧ Kd.R k54 54 w' w.heap.size (fun k_ => some k_ ≠ (v1_ : Value).ownBlock) v2_ r3 ∧ Below w.heap.size w w' := by
 have hu74 := Tryd.underlying74
 have hu54 := Tryd.underlying54
 have HB := Aside0.mk (Below.refl w.heap.size w)
 have H : (some ((([(⟨0, 10, 4⟩ : S74), (⟨10, 20, 0⟩ : S74)] : List (S74))), (([(⟨1, 3⟩ : S54), (⟨1, 3⟩ : S54), (⟨2, 0⟩ : S54), (⟨1, 8⟩ : S54), (⟨3, 0⟩ : S54)] : List (S54))), (([(⟨1, 3⟩ : S54), (⟨3, 0⟩ : S54), (⟨2, 0⟩ : S54), (⟨1, 8⟩ : S54), (⟨1, 8⟩ : S54)] : List (S54))))) = some (r1, r2, r3) := h
 clear h
 obtain ⟨y165, hy165⟩ : ∃ y_ : List (S74), y_ = (([(⟨0, 10, 4⟩ : S74), (⟨10, 20, 0⟩ : S74)] : List (S74))) := ⟨_, rfl⟩
 replace H : (some (y165, (([(⟨1, 3⟩ : S54), (⟨1, 3⟩ : S54), (⟨2, 0⟩ : S54), (⟨1, 8⟩ : S54), (⟨3, 0⟩ : S54)] : List (S54))), (([(⟨1, 3⟩ : S54), (⟨3, 0⟩ : S54), (⟨2, 0⟩ : S54), (⟨1, 8⟩ : S54), (⟨1, 8⟩ : S54)] : List (S54))))) = some (r1, r2, r3) := by first | (rw [hy165]; with_reducible exact H) | (have H2_ := (Option.bind_some _ _).symm.trans H; rw [hy165]; with_reducible exact H2_) | (have H2_ := (Option.bind_some _ _).symm.trans H; with_reducible exact H2_) | with_reducible exact H | (rw [hy165]; exact H) | exact H
 have Ny165 := Aside0.mk hy165
 clear hy165
 obtain ⟨y172, hy172⟩ : ∃ y_ : List (S54), y_ = (([(⟨1, 3⟩ : S54), (⟨1, 3⟩ : S54), (⟨2, 0⟩ : S54), (⟨1, 8⟩ : S54), (⟨3, 0⟩ : S54)] : List (S54))) := ⟨_, rfl⟩
 replace H : (some (y165, y172, (([(⟨1, 3⟩ : S54), (⟨3, 0⟩ : S54), (⟨2, 0⟩ : S54), (⟨1, 8⟩ : S54), (⟨1, 8⟩ : S54)] : List (S54))))) = some (r1, r2, r3) := by first | (rw [hy172]; with_reducible exact H) | (have H2_ := (Option.bind_some _ _).symm.trans H; rw [hy172]; with_reducible exact H2_) | (have H2_ := (Option.bind_some _ _).symm.trans H; with_reducible exact H2_) | with_reducible exact H | (rw [hy172]; exact H) | exact H
 have Ny172 := Aside0.mk hy172
 clear hy172
 obtain ⟨y175, hy175⟩ : ∃ y_ : List (S54), y_ = (([(⟨1, 3⟩ : S54), (⟨3, 0⟩ : S54), (⟨2, 0⟩ : S54), (⟨1, 8⟩ : S54), (⟨1, 8⟩ : S54)] : List (S54))) := ⟨_, rfl⟩
 replace H : (some (y165, y172, y175)) = some (r1, r2, r3) := by first | (rw [hy175]; with_reducible exact H) | (have H2_ := (Option.bind_some _ _).symm.trans H; rw [hy175]; with_reducible exact H2_) | (have H2_ := (Option.bind_some _ _).symm.trans H; with_reducible exact H2_) | with_reducible exact H | (rw [hy175]; exact H) | exact H
 have Ny175 := Aside0.mk hy175
 clear hy175
 simp only [Option.some.injEq, Prod.mk.injEq] at H
 obtain ⟨rfl, rfl, rfl⟩ := H
 go_enter Tryd.func45, Tryd.ntmps45
 try go_wp2_with (first | ((with_reducible refine gate_dst (N := 10) rfl ?_); refine Kd.R_lit k74 _ 74 ?hg (N := 10) ?hd (xs := ([(⟨0, 10, 4⟩ : S74), (⟨10, 20, 0⟩ : S74)] : List (S74))) (inner := [.int .i64 0, .int .i64 10, .int .i64 4, .int .i64 10, .int .i64 20, .int .i64 0]) (ok := fun _ => True) (okp := fun _ => True) ?hr ?hp (fun _ hk => hk) trivial (Below.refl _ _) (Nat.le_refl _) (by simp) ?_; (case hd => rfl); (case hg => rfl); (case hr => first | (go_simp; done) | (go_simp; rfl)); (case hp => exact (Reps.c3 (show Kd.M k74 _ _ _ (⟨0, 10, 4⟩ : S74) [.int .i64 0, .int .i64 10, .int .i64 4] from (k74_mkM _ _ _ (⟨0, 10, 4⟩ : S74) )) (Reps.c3 (show Kd.M k74 _ _ _ (⟨10, 20, 0⟩ : S74) [.int .i64 10, .int .i64 20, .int .i64 0] from (k74_mkM _ _ _ (⟨10, 20, 0⟩ : S74) )) (Reps.none _ _)))); intro v166 w1 ho2 hb hg_ hnew_; clear hg_ hnew_; (first | rw [← Ny165.out] at ho2 | (simp only [Int.reduceToNat] at ho2; rw [← Ny165.out] at ho2)); have n0_ := Aside0.mk (Kd.R_lower ho2 (below_size (zW HB.out))); have n1_ := Aside0.mk (below_step (zW HB.out) hb); clear HB; have HO167 := n0_; have HB := n1_; clear n0_ n1_; clear hb ho2) | ((with_reducible refine gate_dst (N := 4) rfl ?_); refine box_event ?hg (N := 4) ?hd (cs := #[.int .i64 0, .int .i64 0]) (t := 54) ?hr ?_; (case hd => rfl); (case hg => rfl); (case hr => first | (go_simp; done) | (go_simp; rfl)); intro gb168 hg w3 hbox hb; have n0_ := Aside0.mk (Kd.R_below (zR HO167.out) hb); have n1_ := Aside0.mk (below_step (zW HB.out) hb); have n2_ := Aside0.mk (hbox); have n3_ := Aside0.mk ((by rw [hg]; exact (below_size (zW HB.out)) : w.heap.size ≤ gb168)); have n4_ := Aside0.mk ((by rw [hg]; exact (below_size (zW HB.out)) : w.heap.size ≤ gb168)); clear HO167; clear HB; have HO167 := n0_; have HB := n1_; have BK168 := n2_; have GW168 := n3_; have GE168 := n4_; clear n0_ n1_ n2_ n3_ n4_; clear hb hbox hg; have hcz4_0 : w3.cell? ⟨gb168, 0, none⟩ = some (.int .i64 0) := (blk_cell BK168.out 0).trans rfl; have hcz4_1 : w3.cell? ⟨gb168, 1, none⟩ = some (.int .i64 0) := (blk_cell BK168.out 1).trans rfl; have hfz4_0 := blk_frozen BK168.out 0; have hfz4_1 := blk_frozen BK168.out 1) | ((with_reducible refine gate_dst (N := 5) rfl ?_); refine box_event ?hg (N := 5) ?hd (cs := #[.int .i64 0, .int .i64 0]) (t := 54) ?hr ?_; (case hd => rfl); (case hg => rfl); (case hr => first | (go_simp; done) | (go_simp; rfl)); intro gb169 hg w5 hbox hb; have n0_ := Aside0.mk (Kd.R_below (by (with_reducible repeat (first | apply Kd.R_alloc | apply Kd.R_drewN | apply Kd.R_drew)); exact (Kd.R_mono (Kd.R_far (p := ⟨gb168, 1, none⟩) (Kd.R_far (p := ⟨gb168, 0, none⟩) (Kd.R_types HO167.out BK168.out (by decide)) (fun _ hk => hk.2) (.int .i64 1)) (fun _ hk => hk.2) (.int .i64 3)) (fun _ h_ => h_.1))) hb); have n1_ := Aside0.mk (blk_below (g := gb168) (o := .cells #[.int .i64 1, .int .i64 3] 54 (0, 0)) (by (with_reducible repeat (first | refine blk_drewN ?_ _ | refine blk_drew ?_ | refine blk_alloc ?_ _)); refine blk_put (cs := #[.int .i64 1, .int .i64 0]) ?_ 1 _ rfl; (with_reducible repeat (first | refine blk_drewN ?_ _ | refine blk_drew ?_ | refine blk_alloc ?_ _)); refine blk_put (cs := #[.int .i64 0, .int .i64 0]) ?_ 0 _ rfl; (with_reducible repeat (first | refine blk_drewN ?_ _ | refine blk_drew ?_ | refine blk_alloc ?_ _)); exact BK168.out) hb); have n2_ := Aside0.mk (below_step (zX HB.out GE168.out) hb); have n3_ := Aside0.mk (hbox); have n4_ := Aside0.mk ((by rw [hg]; exact (below_size (zX HB.out GE168.out)) : w.heap.size ≤ gb169)); have n5_ := Aside0.mk ((by rw [hg]; exact (below_size (zX HB.out GE168.out)) : w.heap.size ≤ gb169)); have n6_ := Aside0.mk ((by rw [hg]; exact Nat.ne_of_lt (blk_lt (g := gb168) (o := .cells #[.int .i64 1, .int .i64 3] 54 (0, 0)) (by (with_reducible repeat (first | refine blk_drewN ?_ _ | refine blk_drew ?_ | refine blk_alloc ?_ _)); refine blk_put (cs := #[.int .i64 1, .int .i64 0]) ?_ 1 _ rfl; (with_reducible repeat (first | refine blk_drewN ?_ _ | refine blk_drew ?_ | refine blk_alloc ?_ _)); refine blk_put (cs := #[.int .i64 0, .int .i64 0]) ?_ 0 _ rfl; (with_reducible repeat (first | refine blk_drewN ?_ _ | refine blk_drew ?_ | refine blk_alloc ?_ _)); exact BK168.out)) : gb168 ≠ gb169)); have n7_ := Aside0.mk ((by rw [hg]; exact Nat.ne_of_gt (blk_lt (g := gb168) (o := .cells #[.int .i64 1, .int .i64 3] 54 (0, 0)) (by (with_reducible repeat (first | refine blk_drewN ?_ _ | refine blk_drew ?_ | refine blk_alloc ?_ _)); refine blk_put (cs := #[.int .i64 1, .int .i64 0]) ?_ 1 _ rfl; (with_reducible repeat (first | refine blk_drewN ?_ _ | refine blk_drew ?_ | refine blk_alloc ?_ _)); refine blk_put (cs := #[.int .i64 0, .int .i64 0]) ?_ 0 _ rfl; (with_reducible repeat (first | refine blk_drewN ?_ _ | refine blk_drew ?_ | refine blk_alloc ?_ _)); exact BK168.out)) : gb169 ≠ gb168)); clear HO167; clear BK168; clear HB; have HO167 := n0_; have BK168 := n1_; have HB := n2_; have BK169 := n3_; have GW169 := n4_; have GE169 := n5_; have NB168_169 := n6_; have NB169_168 := n7_; clear n0_ n1_ n2_ n3_ n4_ n5_ n6_ n7_; clear hb hbox hg; have hnb6 := NB169_168.out; have hnc6 := NB168_169.out; have hcz7_0 : w5.cell? ⟨gb169, 0, none⟩ = some (.int .i64 0) := (blk_cell BK169.out 0).trans rfl; have hcz7_1 : w5.cell? ⟨gb169, 1, none⟩ = some (.int .i64 0) := (blk_cell BK169.out 1).trans rfl; have hfz7_0 := blk_frozen BK169.out 0; have hfz7_1 := blk_frozen BK169.out 1) | ((with_reducible refine gate_dst (N := 6) rfl ?_); refine box_event ?hg (N := 6) ?hd (cs := #[.int .i64 0, .int .i64 0]) (t := 54) ?hr ?_; (case hd => rfl); (case hg => rfl); (case hr => first | (go_simp; done) | (go_simp; rfl)); intro gb170 hg w8 hbox hb; have n0_ := Aside0.mk (Kd.R_below (by (with_reducible repeat (first | apply Kd.R_alloc | apply Kd.R_drewN | apply Kd.R_drew)); exact (Kd.R_mono (Kd.R_far (p := ⟨gb169, 1, none⟩) (Kd.R_far (p := ⟨gb169, 0, none⟩) (Kd.R_types HO167.out BK169.out (by decide)) (fun _ hk => hk.2) (.int .i64 1)) (fun _ hk => hk.2) (.int .i64 8)) (fun _ h_ => h_.1))) hb); have n1_ := Aside0.mk (blk_below (g := gb168) (o := .cells #[.int .i64 1, .int .i64 3] 54 (0, 0)) (by (with_reducible repeat (first | refine blk_drewN ?_ _ | refine blk_drew ?_ | refine blk_alloc ?_ _)); refine blk_far ?_ NB168_169.out _; (with_reducible repeat (first | refine blk_drewN ?_ _ | refine blk_drew ?_ | refine blk_alloc ?_ _)); refine blk_far ?_ NB168_169.out _; (with_reducible repeat (first | refine blk_drewN ?_ _ | refine blk_drew ?_ | refine blk_alloc ?_ _)); exact BK168.out) hb); have n2_ := Aside0.mk (blk_below (g := gb169) (o := .cells #[.int .i64 1, .int .i64 8] 54 (0, 0)) (by (with_reducible repeat (first | refine blk_drewN ?_ _ | refine blk_drew ?_ | refine blk_alloc ?_ _)); refine blk_put (cs := #[.int .i64 1, .int .i64 0]) ?_ 1 _ rfl; (with_reducible repeat (first | refine blk_drewN ?_ _ | refine blk_drew ?_ | refine blk_alloc ?_ _)); refine blk_put (cs := #[.int .i64 0, .int .i64 0]) ?_ 0 _ rfl; (with_reducible repeat (first | refine blk_drewN ?_ _ | refine blk_drew ?_ | refine blk_alloc ?_ _)); exact BK169.out) hb); have n3_ := Aside0.mk (below_step (by repeat (first | (with_reducible first | exact HB.out | apply below_alloc | apply pw_below_drewN | apply below_drew1 | refine below_set ?_ GE168.out | refine below_set ?_ GE169.out) | exact HB.out)) hb); have n4_ := Aside0.mk (hbox); have n5_ := Aside0.mk ((by rw [hg]; exact (below_size (by repeat (first | (with_reducible first | exact HB.out | apply below_alloc | apply pw_below_drewN | apply below_drew1 | refine below_set ?_ GE168.out | refine below_set ?_ GE169.out) | exact HB.out))) : w.heap.size ≤ gb170)); have n6_ := Aside0.mk ((by rw [hg]; exact (below_size (by repeat (first | (with_reducible first | exact HB.out | apply below_alloc | apply pw_below_drewN | apply below_drew1 | refine below_set ?_ GE168.out | refine below_set ?_ GE169.out) | exact HB.out))) : w.heap.size ≤ gb170)); have n7_ := Aside0.mk ((by rw [hg]; exact Nat.ne_of_lt (blk_lt (g := gb168) (o := .cells #[.int .i64 1, .int .i64 3] 54 (0, 0)) (by (with_reducible repeat (first | refine blk_drewN ?_ _ | refine blk_drew ?_ | refine blk_alloc ?_ _)); refine blk_far ?_ NB168_169.out _; (with_reducible repeat (first | refine blk_drewN ?_ _ | refine blk_drew ?_ | refine blk_alloc ?_ _)); refine blk_far ?_ NB168_169.out _; (with_reducible repeat (first | refine blk_drewN ?_ _ | refine blk_drew ?_ | refine blk_alloc ?_ _)); exact BK168.out)) : gb168 ≠ gb170)); have n8_ := Aside0.mk ((by rw [hg]; exact Nat.ne_of_gt (blk_lt (g := gb168) (o := .cells #[.int .i64 1, .int .i64 3] 54 (0, 0)) (by (with_reducible repeat (first | refine blk_drewN ?_ _ | refine blk_drew ?_ | refine blk_alloc ?_ _)); refine blk_far ?_ NB168_169.out _; (with_reducible repeat (first | refine blk_drewN ?_ _ | refine blk_drew ?_ | refine blk_alloc ?_ _)); refine blk_far ?_ NB168_169.out _; (with_reducible repeat (first | refine blk_drewN ?_ _ | refine blk_drew ?_ | refine blk_alloc ?_ _)); exact BK168.out)) : gb170 ≠ gb168)); have n9_ := Aside0.mk ((by rw [hg]; exact Nat.ne_of_lt (blk_lt (g := gb169) (o := .cells #[.int .i64 1, .int .i64 8] 54 (0, 0)) (by (with_reducible repeat (first | refine blk_drewN ?_ _ | refine blk_drew ?_ | refine blk_alloc ?_ _)); refine blk_put (cs := #[.int .i64 1, .int .i64 0]) ?_ 1 _ rfl; (with_reducible repeat (first | refine blk_drewN ?_ _ | refine blk_drew ?_ | refine blk_alloc ?_ _)); refine blk_put (cs := #[.int .i64 0, .int .i64 0]) ?_ 0 _ rfl; (with_reducible repeat (first | refine blk_drewN ?_ _ | refine blk_drew ?_ | refine blk_alloc ?_ _)); exact BK169.out)) : gb169 ≠ gb170)); have n10_ := Aside0.mk ((by rw [hg]; exact Nat.ne_of_gt (blk_lt (g := gb169) (o := .cells #[.int .i64 1, .int .i64 8] 54 (0, 0)) (by (with_reducible repeat (first | refine blk_drewN ?_ _ | refine blk_drew ?_ | refine blk_alloc ?_ _)); refine blk_put (cs := #[.int .i64 1, .int .i64 0]) ?_ 1 _ rfl; (with_reducible repeat (first | refine blk_drewN ?_ _ | refine blk_drew ?_ | refine blk_alloc ?_ _)); refine blk_put (cs := #[.int .i64 0, .int .i64 0]) ?_ 0 _ rfl; (with_reducible repeat (first | refine blk_drewN ?_ _ | refine blk_drew ?_ | refine blk_alloc ?_ _)); exact BK169.out)) : gb170 ≠ gb169)); clear HO167; clear BK168; clear BK169; clear HB; have HO167 := n0_; have BK168 := n1_; have BK169 := n2_; have HB := n3_; have BK170 := n4_; have GW170 := n5_; have GE170 := n6_; have NB168_170 := n7_; have NB170_168 := n8_; have NB169_170 := n9_; have NB170_169 := n10_; clear n0_ n1_ n2_ n3_ n4_ n5_ n6_ n7_ n8_ n9_ n10_; clear hb hbox hg; have hnb9 := NB170_168.out; have hnc9 := NB168_170.out; have hnb10 := NB170_169.out; have hnc10 := NB169_170.out; have hcz11_0 : w8.cell? ⟨gb170, 0, none⟩ = some (.int .i64 0) := (blk_cell BK170.out 0).trans rfl; have hcz11_1 : w8.cell? ⟨gb170, 1, none⟩ = some (.int .i64 0) := (blk_cell BK170.out 1).trans rfl; have hfz11_0 := blk_frozen BK170.out 0; have hfz11_1 := blk_frozen BK170.out 1) | ((with_reducible refine gate_dst (N := 7) rfl ?_); refine box_event ?hg (N := 7) ?hd (cs := #[.int .i64 0, .int .i64 0]) (t := 54) ?hr ?_; (case hd => rfl); (case hg => rfl); (case hr => first | (go_simp; done) | (go_simp; rfl)); intro gb171 hg w12 hbox hb; have n0_ := Aside0.mk (Kd.R_below (by (with_reducible repeat (first | apply Kd.R_alloc | apply Kd.R_drewN | apply Kd.R_drew)); exact (Kd.R_mono (Kd.R_far (p := ⟨gb170, 1, none⟩) (Kd.R_far (p := ⟨gb170, 0, none⟩) (Kd.R_types HO167.out BK170.out (by decide)) (fun _ hk => hk.2) (.int .i64 2)) (fun _ hk => hk.2) (.int .i64 0)) (fun _ h_ => h_.1))) hb); have n1_ := Aside0.mk (blk_below (g := gb168) (o := .cells #[.int .i64 1, .int .i64 3] 54 (0, 0)) (by (with_reducible repeat (first | refine blk_drewN ?_ _ | refine blk_drew ?_ | refine blk_alloc ?_ _)); refine blk_far ?_ NB168_170.out _; (with_reducible repeat (first | refine blk_drewN ?_ _ | refine blk_drew ?_ | refine blk_alloc ?_ _)); refine blk_far ?_ NB168_170.out _; (with_reducible repeat (first | refine blk_drewN ?_ _ | refine blk_drew ?_ | refine blk_alloc ?_ _)); exact BK168.out) hb); have n2_ := Aside0.mk (blk_below (g := gb169) (o := .cells #[.int .i64 1, .int .i64 8] 54 (0, 0)) (by (with_reducible repeat (first | refine blk_drewN ?_ _ | refine blk_drew ?_ | refine blk_alloc ?_ _)); refine blk_far ?_ NB169_170.out _; (with_reducible repeat (first | refine blk_drewN ?_ _ | refine blk_drew ?_ | refine blk_alloc ?_ _)); refine blk_far ?_ NB169_170.out _; (with_reducible repeat (first | refine blk_drewN ?_ _ | refine blk_drew ?_ | refine blk_alloc ?_ _)); exact BK169.out) hb); have n3_ := Aside0.mk (blk_below (g := gb170) (o := .cells #[.int .i64 2, .int .i64 0] 54 (0, 0)) (by (with_reducible repeat (first | refine blk_drewN ?_ _ | refine blk_drew ?_ | refine blk_alloc ?_ _)); refine blk_put (cs := #[.int .i64 2, .int .i64 0]) ?_ 1 _ rfl; (with_reducible repeat (first | refine blk_drewN ?_ _ | refine blk_drew ?_ | refine blk_alloc ?_ _)); refine blk_put (cs := #[.int .i64 0, .int .i64 0]) ?_ 0 _ rfl; (with_reducible repeat (first | refine blk_drewN ?_ _ | refine blk_drew ?_ | refine blk_alloc ?_ _)); exact BK170.out) hb); have n4_ := Aside0.mk (below_step (by repeat (first | (with_reducible first | exact HB.out | apply below_alloc | apply pw_below_drewN | apply below_drew1 | refine below_set ?_ GE168.out | refine below_set ?_ GE169.out | refine below_set ?_ GE170.out) | exact HB.out)) hb); have n5_ := Aside0.mk (hbox); have n6_ := Aside0.mk ((by rw [hg]; exact (below_size (by repeat (first | (with_reducible first | exact HB.out | apply below_alloc | apply pw_below_drewN | apply below_drew1 | refine below_set ?_ GE168.out | refine below_set ?_ GE169.out | refine below_set ?_ GE170.out) | exact HB.out))) : w.heap.size ≤ gb171)); have n7_ := Aside0.mk ((by rw [hg]; exact (below_size (by repeat (first | (with_reducible first | exact HB.out | apply below_alloc | apply pw_below_drewN | apply below_drew1 | refine below_set ?_ GE168.out | refine below_set ?_ GE169.out | refine below_set ?_ GE170.out) | exact HB.out))) : w.heap.size ≤ gb171)); have n8_ := Aside0.mk ((by rw [hg]; exact Nat.ne_of_lt (blk_lt (g := gb168) (o := .cells #[.int .i64 1, .int .i64 3] 54 (0, 0)) (by (with_reducible repeat (first | refine blk_drewN ?_ _ | refine blk_drew ?_ | refine blk_alloc ?_ _)); refine blk_far ?_ NB168_170.out _; (with_reducible repeat (first | refine blk_drewN ?_ _ | refine blk_drew ?_ | refine blk_alloc ?_ _)); refine blk_far ?_ NB168_170.out _; (with_reducible repeat (first | refine blk_drewN ?_ _ | refine blk_drew ?_ | refine blk_alloc ?_ _)); exact BK168.out)) : gb168 ≠ gb171)); have n9_ := Aside0.mk ((by rw [hg]; exact Nat.ne_of_gt (blk_lt (g := gb168) (o := .cells #[.int .i64 1, .int .i64 3] 54 (0, 0)) (by (with_reducible repeat (first | refine blk_drewN ?_ _ | refine blk_drew ?_ | refine blk_alloc ?_ _)); refine blk_far ?_ NB168_170.out _; (with_reducible repeat (first | refine blk_drewN ?_ _ | refine blk_drew ?_ | refine blk_alloc ?_ _)); refine blk_far ?_ NB168_170.out _; (with_reducible repeat (first | refine blk_drewN ?_ _ | refine blk_drew ?_ | refine blk_alloc ?_ _)); exact BK168.out)) : gb171 ≠ gb168)); have n10_ := Aside0.mk ((by rw [hg]; exact Nat.ne_of_lt (blk_lt (g := gb169) (o := .cells #[.int .i64 1, .int .i64 8] 54 (0, 0)) (by (with_reducible repeat (first | refine blk_drewN ?_ _ | refine blk_drew ?_ | refine blk_alloc ?_ _)); refine blk_far ?_ NB169_170.out _; (with_reducible repeat (first | refine blk_drewN ?_ _ | refine blk_drew ?_ | refine blk_alloc ?_ _)); refine blk_far ?_ NB169_170.out _; (with_reducible repeat (first | refine blk_drewN ?_ _ | refine blk_drew ?_ | refine blk_alloc ?_ _)); exact BK169.out)) : gb169 ≠ gb171)); have n11_ := Aside0.mk ((by rw [hg]; exact Nat.ne_of_gt (blk_lt (g := gb169) (o := .cells #[.int .i64 1, .int .i64 8] 54 (0, 0)) (by (with_reducible repeat (first | refine blk_drewN ?_ _ | refine blk_drew ?_ | refine blk_alloc ?_ _)); refine blk_far ?_ NB169_170.out _; (with_reducible repeat (first | refine blk_drewN ?_ _ | refine blk_drew ?_ | refine blk_alloc ?_ _)); refine blk_far ?_ NB169_170.out _; (with_reducible repeat (first | refine blk_drewN ?_ _ | refine blk_drew ?_ | refine blk_alloc ?_ _)); exact BK169.out)) : gb171 ≠ gb169)); have n12_ := Aside0.mk ((by rw [hg]; exact Nat.ne_of_lt (blk_lt (g := gb170) (o := .cells #[.int .i64 2, .int .i64 0] 54 (0, 0)) (by (with_reducible repeat (first | refine blk_drewN ?_ _ | refine blk_drew ?_ | refine blk_alloc ?_ _)); refine blk_put (cs := #[.int .i64 2, .int .i64 0]) ?_ 1 _ rfl; (with_reducible repeat (first | refine blk_drewN ?_ _ | refine blk_drew ?_ | refine blk_alloc ?_ _)); refine blk_put (cs := #[.int .i64 0, .int .i64 0]) ?_ 0 _ rfl; (with_reducible repeat (first | refine blk_drewN ?_ _ | refine blk_drew ?_ | refine blk_alloc ?_ _)); exact BK170.out)) : gb170 ≠ gb171)); have n13_ := Aside0.mk ((by rw [hg]; exact Nat.ne_of_gt (blk_lt (g := gb170) (o := .cells #[.int .i64 2, .int .i64 0] 54 (0, 0)) (by (with_reducible repeat (first | refine blk_drewN ?_ _ | refine blk_drew ?_ | refine blk_alloc ?_ _)); refine blk_put (cs := #[.int .i64 2, .int .i64 0]) ?_ 1 _ rfl; (with_reducible repeat (first | refine blk_drewN ?_ _ | refine blk_drew ?_ | refine blk_alloc ?_ _)); refine blk_put (cs := #[.int .i64 0, .int .i64 0]) ?_ 0 _ rfl; (with_reducible repeat (first | refine blk_drewN ?_ _ | refine blk_drew ?_ | refine blk_alloc ?_ _)); exact BK170.out)) : gb171 ≠ gb170)); clear HO167; clear BK168; clear BK169; clear BK170; clear HB; have HO167 := n0_; have BK168 := n1_; have BK169 := n2_; have BK170 := n3_; have HB := n4_; have BK171 := n5_; have GW171 := n6_; have GE171 := n7_; have NB168_171 := n8_; have NB171_168 := n9_; have NB169_171 := n10_; have NB171_169 := n11_; have NB170_171 := n12_; have NB171_170 := n13_; clear n0_ n1_ n2_ n3_ n4_ n5_ n6_ n7_ n8_ n9_ n10_ n11_ n12_ n13_; clear hb hbox hg; have hnb13 := NB171_168.out; have hnc13 := NB168_171.out; have hnb14 := NB171_169.out; have hnc14 := NB169_171.out; have hnb15 := NB171_170.out; have hnc15 := NB170_171.out; have hcz16_0 : w12.cell? ⟨gb171, 0, none⟩ = some (.int .i64 0) := (blk_cell BK171.out 0).trans rfl; have hcz16_1 : w12.cell? ⟨gb171, 1, none⟩ = some (.int .i64 0) := (blk_cell BK171.out 1).trans rfl; have hfz16_0 := blk_frozen BK171.out 0; have hfz16_1 := blk_frozen BK171.out 1))
 have n0_ : Aside0 (Kd.R k74 74 ((w12.setCell ⟨gb171, 0, none⟩ (.int .i64 3)).setCell ⟨gb171, 1, none⟩ (.int .i64 0)) w.heap.size (fun _ => True) v166 y165) := ⟨by (with_reducible repeat (first | apply Kd.R_alloc | apply Kd.R_drewN | apply Kd.R_drew)); exact Kd.R_mono (Kd.R_far (p := ⟨gb171, 1, none⟩) (Kd.R_far (p := ⟨gb171, 0, none⟩) (Kd.R_types HO167.out BK171.out (by decide)) (fun _ hk => hk.2) (.int .i64 3)) (fun _ hk => hk.2) (.int .i64 0)) (fun _ hk => trivial)⟩
 have n1_ : Aside0 (((w12.setCell ⟨gb171, 0, none⟩ (.int .i64 3)).setCell ⟨gb171, 1, none⟩ (.int .i64 0)).heap[gb168]? = some (.cells #[.int .i64 1, .int .i64 3] 54 (0, 0))) := ⟨by (with_reducible repeat (first | refine blk_drewN ?_ _ | refine blk_drew ?_ | refine blk_alloc ?_ _)); refine blk_far ?_ NB168_171.out _; (with_reducible repeat (first | refine blk_drewN ?_ _ | refine blk_drew ?_ | refine blk_alloc ?_ _)); refine blk_far ?_ NB168_171.out _; (with_reducible repeat (first | refine blk_drewN ?_ _ | refine blk_drew ?_ | refine blk_alloc ?_ _)); exact BK168.out⟩
 have n2_ : Aside0 (((w12.setCell ⟨gb171, 0, none⟩ (.int .i64 3)).setCell ⟨gb171, 1, none⟩ (.int .i64 0)).heap[gb169]? = some (.cells #[.int .i64 1, .int .i64 8] 54 (0, 0))) := ⟨by (with_reducible repeat (first | refine blk_drewN ?_ _ | refine blk_drew ?_ | refine blk_alloc ?_ _)); refine blk_far ?_ NB169_171.out _; (with_reducible repeat (first | refine blk_drewN ?_ _ | refine blk_drew ?_ | refine blk_alloc ?_ _)); refine blk_far ?_ NB169_171.out _; (with_reducible repeat (first | refine blk_drewN ?_ _ | refine blk_drew ?_ | refine blk_alloc ?_ _)); exact BK169.out⟩
 have n3_ : Aside0 (((w12.setCell ⟨gb171, 0, none⟩ (.int .i64 3)).setCell ⟨gb171, 1, none⟩ (.int .i64 0)).heap[gb170]? = some (.cells #[.int .i64 2, .int .i64 0] 54 (0, 0))) := ⟨by (with_reducible repeat (first | refine blk_drewN ?_ _ | refine blk_drew ?_ | refine blk_alloc ?_ _)); refine blk_far ?_ NB170_171.out _; (with_reducible repeat (first | refine blk_drewN ?_ _ | refine blk_drew ?_ | refine blk_alloc ?_ _)); refine blk_far ?_ NB170_171.out _; (with_reducible repeat (first | refine blk_drewN ?_ _ | refine blk_drew ?_ | refine blk_alloc ?_ _)); exact BK170.out⟩
 have n4_ : Aside0 (((w12.setCell ⟨gb171, 0, none⟩ (.int .i64 3)).setCell ⟨gb171, 1, none⟩ (.int .i64 0)).heap[gb171]? = some (.cells #[.int .i64 3, .int .i64 0] 54 (0, 0))) := ⟨by (with_reducible repeat (first | refine blk_drewN ?_ _ | refine blk_drew ?_ | refine blk_alloc ?_ _)); refine blk_put (cs := #[.int .i64 3, .int .i64 0]) ?_ 1 _ rfl; (with_reducible repeat (first | refine blk_drewN ?_ _ | refine blk_drew ?_ | refine blk_alloc ?_ _)); refine blk_put (cs := #[.int .i64 0, .int .i64 0]) ?_ 0 _ rfl; (with_reducible repeat (first | refine blk_drewN ?_ _ | refine blk_drew ?_ | refine blk_alloc ?_ _)); exact BK171.out⟩
 have n5_ : Aside0 (Below w.heap.size w ((w12.setCell ⟨gb171, 0, none⟩ (.int .i64 3)).setCell ⟨gb171, 1, none⟩ (.int .i64 0))) := ⟨by repeat (first | (with_reducible first | exact HB.out | apply below_alloc | apply pw_below_drewN | apply below_drew1 | refine below_set ?_ GE168.out | refine below_set ?_ GE169.out | refine below_set ?_ GE170.out | refine below_set ?_ GE171.out) | exact HB.out)⟩
 (try clear HO167)
 (try clear BK168)
 (try clear BK169)
 (try clear BK170)
 (try clear BK171)
 (try clear HB)
 generalize ((w12.setCell ⟨gb171, 0, none⟩ (.int .i64 3)).setCell ⟨gb171, 1, none⟩ (.int .i64 0)) = w17 at n0_ n1_ n2_ n3_ n4_ n5_ ⊢
 have HO167 := n0_
 have BK168 := n1_
 have BK169 := n2_
 have BK170 := n3_
 have BK171 := n4_
 have HB := n5_
 clear n0_ n1_ n2_ n3_ n4_ n5_
 have n0_ := Aside0.mk (Kd.R_drew HO167.out)
 have n1_ := Aside0.mk (blk_drew BK168.out)
 have n2_ := Aside0.mk (blk_drew BK169.out)
 have n3_ := Aside0.mk (blk_drew BK170.out)
 have n4_ := Aside0.mk (blk_drew BK171.out)
 have n5_ := Aside0.mk (below_drew1 HB.out)
 clear HO167
 clear BK168
 clear BK169
 clear BK170
 clear BK171
 clear HB
 have HO167 := n0_
 have BK168 := n1_
 have BK169 := n2_
 have BK170 := n3_
 have BK171 := n4_
 have HB := n5_
 clear n0_ n1_ n2_ n3_ n4_ n5_
 refine start_ (n := 16) (S := fun w' => True) (ds := []) (bz 16 0) (by kernel_rfl) rfl rfl trivial (fun hHeld => ?_); refine with_tabW airchecklaw38_example.tab6 airchecklaw38_example.bits6 (fun HT_ HW_ => ?_)
 generalize w17.drew = w18 at HO167 BK168 BK169 BK170 BK171 HB hHeld ⊢
 refine zP 0 (some 15) (bz 16 1) HT_ ?_
 refine inv_at [1, 2, 3, 4, 5, 6, 7, 8, 9, 10, 11, 12, 13, 14, 15] (fun a0_ b a w' => ∃ (v173 : Value) (v176 : Value) (m14_ : Value) (m15_ : Value), a = putSel a0_ b [(1, 16, .agg #[.int .i64 1, .int .i64 3]), (2, 17, .agg #[.int .i64 1, .int .i64 3]), (3, 18, .agg #[.int .i64 2, .int .i64 0]), (4, 19, .agg #[.int .i64 1, .int .i64 8]), (5, 20, .agg #[.int .i64 3, .int .i64 0]), (6, 21, v173), (7, 22, .agg #[.int .i64 1, .int .i64 3]), (8, 23, .agg #[.int .i64 3, .int .i64 0]), (9, 24, .agg #[.int .i64 2, .int .i64 0]), (10, 25, .agg #[.int .i64 1, .int .i64 8]), (11, 26, .agg #[.int .i64 1, .int .i64 8]), (12, 27, v176), (13, 0, v166), (14, 1, m14_), (15, 2, m15_)] ∧ (Kd.R k74 74 w' w.heap.size (fun _ => True) v166 y165) ∧ (w'.heap[gb168]? = some (.cells #[.int .i64 1, .int .i64 3] 54 (0, 0))) ∧ (w'.heap[gb169]? = some (.cells #[.int .i64 1, .int .i64 8] 54 (0, 0))) ∧ (w'.heap[gb170]? = some (.cells #[.int .i64 2, .int .i64 0] 54 (0, 0))) ∧ (w'.heap[gb171]? = some (.cells #[.int .i64 3, .int .i64 0] 54 (0, 0))) ∧ (Below w.heap.size w w') ∧ (b 6 = true → Kd.R k54 54 w' w.heap.size (fun k_ => k_ ≠ gb168 ∧ k_ ≠ gb169 ∧ k_ ≠ gb170 ∧ k_ ≠ gb171) v173 y172) ∧ (b 12 = true → Kd.R k54 54 w' w.heap.size (fun k_ => k_ ≠ gb168 ∧ k_ ≠ gb169 ∧ k_ ≠ gb170 ∧ k_ ≠ gb171) v176 y175) ∧ (b 14 = true → (m14_ : Value) = v173) ∧ (b 15 = true → (m15_ : Value) = v176)) HT_.out HW_.out (by kernel_rfl) (by kernel_rfl) ?_ ?_ ?_
 ·exact ⟨.bool false, .bool false, .bool false, .bool false, by simp only [putSel, Bool.false_eq_true, if_false], HO167.out, BK168.out, BK169.out, BK170.out, BK171.out, HB.out, fun h_ => absurd h_ (by decide), fun h_ => absurd h_ (by decide), fun h_ => absurd h_ (by decide), fun h_ => absurd h_ (by decide)⟩
 ·skip
  clear BK168 BK169 BK170 BK171 HB HO167
  refine steps_cons ?_ ?_
  ·rintro b a w' ⟨v173, v176, m14_, m15_, ha, Q_HO167, Q_BK168, Q_BK169, Q_BK170, Q_BK171, Q_HB, Q_HO174, Q_HO177, Q_X14_, Q_X15_⟩ hb_ hon hoff
   refine ⟨_, rfl, fun K hK => ?_⟩
   have e4 : a.tmps[4]? = some (.pointer (some ⟨gb168, 0, none⟩)) := by rw [ha]; exact (putSel_off rfl).trans rfl
   replace ha := Aside0.mk ha
   have HO167 := Aside0.mk Q_HO167
   have BK168 := Aside0.mk Q_BK168
   have BK169 := Aside0.mk Q_BK169
   have BK170 := Aside0.mk Q_BK170
   have BK171 := Aside0.mk Q_BK171
   have HB := Aside0.mk Q_HB
   have hc0_ : w'.cell? ⟨gb168, 0, none⟩ = some (.int .i64 1) := (blk_cell BK168.out 0).trans rfl
   have hc1_ : w'.cell? ⟨gb168, 1, none⟩ = some (.int .i64 3) := (blk_cell BK168.out 1).trans rfl
   refine value_ (w1 := w') (v := .agg #[.int .i64 1, .int .i64 3]) (by rfl) rfl ?_ ?_
   ·go_simp
    (try simp only [i64_w])
    try rfl
   refine hK.out _ _ ⟨v173, v176, m14_, m15_, (by rw [ha.out]; exact putSel_upk 0 hb_ rfl rfl rfl), Q_HO167, Q_BK168, Q_BK169, Q_BK170, Q_BK171, Q_HB, fun h0_ => absurd ((hoff 6 (by kernel_rfl)).symm.trans h0_) (by decide), Q_HO177, fun h0_ => absurd ((hoff 14 (by kernel_rfl)).symm.trans h0_) (by decide), fun h0_ => absurd ((hoff 15 (by kernel_rfl)).symm.trans h0_) (by decide)⟩
  refine steps_cons ?_ ?_
  ·rintro b a w' ⟨v173, v176, m14_, m15_, ha, Q_HO167, Q_BK168, Q_BK169, Q_BK170, Q_BK171, Q_HB, Q_HO174, Q_HO177, Q_X14_, Q_X15_⟩ hb_ hon hoff
   refine ⟨_, rfl, fun K hK => ?_⟩
   have e4 : a.tmps[4]? = some (.pointer (some ⟨gb168, 0, none⟩)) := by rw [ha]; exact (putSel_off rfl).trans rfl
   replace ha := Aside0.mk ha
   have HO167 := Aside0.mk Q_HO167
   have BK168 := Aside0.mk Q_BK168
   have BK169 := Aside0.mk Q_BK169
   have BK170 := Aside0.mk Q_BK170
   have BK171 := Aside0.mk Q_BK171
   have HB := Aside0.mk Q_HB
   have hc0_ : w'.cell? ⟨gb168, 0, none⟩ = some (.int .i64 1) := (blk_cell BK168.out 0).trans rfl
   have hc1_ : w'.cell? ⟨gb168, 1, none⟩ = some (.int .i64 3) := (blk_cell BK168.out 1).trans rfl
   refine value_ (w1 := w') (v := .agg #[.int .i64 1, .int .i64 3]) (by rfl) rfl ?_ ?_
   ·go_simp
    (try simp only [i64_w])
    try rfl
   refine hK.out _ _ ⟨v173, v176, m14_, m15_, (by rw [ha.out]; exact putSel_upk 1 hb_ rfl rfl rfl), Q_HO167, Q_BK168, Q_BK169, Q_BK170, Q_BK171, Q_HB, fun h0_ => absurd ((hoff 6 (by kernel_rfl)).symm.trans h0_) (by decide), Q_HO177, fun h0_ => absurd ((hoff 14 (by kernel_rfl)).symm.trans h0_) (by decide), fun h0_ => absurd ((hoff 15 (by kernel_rfl)).symm.trans h0_) (by decide)⟩
  refine steps_cons ?_ ?_
  ·rintro b a w' ⟨v173, v176, m14_, m15_, ha, Q_HO167, Q_BK168, Q_BK169, Q_BK170, Q_BK171, Q_HB, Q_HO174, Q_HO177, Q_X14_, Q_X15_⟩ hb_ hon hoff
   refine ⟨_, rfl, fun K hK => ?_⟩
   have e6 : a.tmps[6]? = some (.pointer (some ⟨gb170, 0, none⟩)) := by rw [ha]; exact (putSel_off rfl).trans rfl
   replace ha := Aside0.mk ha
   have HO167 := Aside0.mk Q_HO167
   have BK168 := Aside0.mk Q_BK168
   have BK169 := Aside0.mk Q_BK169
   have BK170 := Aside0.mk Q_BK170
   have BK171 := Aside0.mk Q_BK171
   have HB := Aside0.mk Q_HB
   have hc0_ : w'.cell? ⟨gb170, 0, none⟩ = some (.int .i64 2) := (blk_cell BK170.out 0).trans rfl
   have hc1_ : w'.cell? ⟨gb170, 1, none⟩ = some (.int .i64 0) := (blk_cell BK170.out 1).trans rfl
   refine value_ (w1 := w') (v := .agg #[.int .i64 2, .int .i64 0]) (by rfl) rfl ?_ ?_
   ·go_simp
    (try simp only [i64_w])
    try rfl
   refine hK.out _ _ ⟨v173, v176, m14_, m15_, (by rw [ha.out]; exact putSel_upk 2 hb_ rfl rfl rfl), Q_HO167, Q_BK168, Q_BK169, Q_BK170, Q_BK171, Q_HB, fun h0_ => absurd ((hoff 6 (by kernel_rfl)).symm.trans h0_) (by decide), Q_HO177, fun h0_ => absurd ((hoff 14 (by kernel_rfl)).symm.trans h0_) (by decide), fun h0_ => absurd ((hoff 15 (by kernel_rfl)).symm.trans h0_) (by decide)⟩
  refine steps_cons ?_ ?_
  ·rintro b a w' ⟨v173, v176, m14_, m15_, ha, Q_HO167, Q_BK168, Q_BK169, Q_BK170, Q_BK171, Q_HB, Q_HO174, Q_HO177, Q_X14_, Q_X15_⟩ hb_ hon hoff
   refine ⟨_, rfl, fun K hK => ?_⟩
   have e5 : a.tmps[5]? = some (.pointer (some ⟨gb169, 0, none⟩)) := by rw [ha]; exact (putSel_off rfl).trans rfl
   replace ha := Aside0.mk ha
   have HO167 := Aside0.mk Q_HO167
   have BK168 := Aside0.mk Q_BK168
   have BK169 := Aside0.mk Q_BK169
   have BK170 := Aside0.mk Q_BK170
   have BK171 := Aside0.mk Q_BK171
   have HB := Aside0.mk Q_HB
   have hc0_ : w'.cell? ⟨gb169, 0, none⟩ = some (.int .i64 1) := (blk_cell BK169.out 0).trans rfl
   have hc1_ : w'.cell? ⟨gb169, 1, none⟩ = some (.int .i64 8) := (blk_cell BK169.out 1).trans rfl
   refine value_ (w1 := w') (v := .agg #[.int .i64 1, .int .i64 8]) (by rfl) rfl ?_ ?_
   ·go_simp
    (try simp only [i64_w])
    try rfl
   refine hK.out _ _ ⟨v173, v176, m14_, m15_, (by rw [ha.out]; exact putSel_upk 3 hb_ rfl rfl rfl), Q_HO167, Q_BK168, Q_BK169, Q_BK170, Q_BK171, Q_HB, fun h0_ => absurd ((hoff 6 (by kernel_rfl)).symm.trans h0_) (by decide), Q_HO177, fun h0_ => absurd ((hoff 14 (by kernel_rfl)).symm.trans h0_) (by decide), fun h0_ => absurd ((hoff 15 (by kernel_rfl)).symm.trans h0_) (by decide)⟩
  refine steps_cons ?_ ?_
  ·rintro b a w' ⟨v173, v176, m14_, m15_, ha, Q_HO167, Q_BK168, Q_BK169, Q_BK170, Q_BK171, Q_HB, Q_HO174, Q_HO177, Q_X14_, Q_X15_⟩ hb_ hon hoff
   refine ⟨_, rfl, fun K hK => ?_⟩
   have e7 : a.tmps[7]? = some (.pointer (some ⟨gb171, 0, none⟩)) := by rw [ha]; exact (putSel_off rfl).trans rfl
   replace ha := Aside0.mk ha
   have HO167 := Aside0.mk Q_HO167
   have BK168 := Aside0.mk Q_BK168
   have BK169 := Aside0.mk Q_BK169
   have BK170 := Aside0.mk Q_BK170
   have BK171 := Aside0.mk Q_BK171
   have HB := Aside0.mk Q_HB
   have hc0_ : w'.cell? ⟨gb171, 0, none⟩ = some (.int .i64 3) := (blk_cell BK171.out 0).trans rfl
   have hc1_ : w'.cell? ⟨gb171, 1, none⟩ = some (.int .i64 0) := (blk_cell BK171.out 1).trans rfl
   refine value_ (w1 := w') (v := .agg #[.int .i64 3, .int .i64 0]) (by rfl) rfl ?_ ?_
   ·go_simp
    (try simp only [i64_w])
    try rfl
   refine hK.out _ _ ⟨v173, v176, m14_, m15_, (by rw [ha.out]; exact putSel_upk 4 hb_ rfl rfl rfl), Q_HO167, Q_BK168, Q_BK169, Q_BK170, Q_BK171, Q_HB, fun h0_ => absurd ((hoff 6 (by kernel_rfl)).symm.trans h0_) (by decide), Q_HO177, fun h0_ => absurd ((hoff 14 (by kernel_rfl)).symm.trans h0_) (by decide), fun h0_ => absurd ((hoff 15 (by kernel_rfl)).symm.trans h0_) (by decide)⟩
  refine steps_cons ?_ ?_
  ·rintro b a w' ⟨v173, v176, m14_, m15_, ha, Q_HO167, Q_BK168, Q_BK169, Q_BK170, Q_BK171, Q_HB, Q_HO174, Q_HO177, Q_X14_, Q_X15_⟩ hb_ hon hoff
   refine ⟨_, rfl, fun K hK => ?_⟩
   have e16 : a.tmps[16]? = some (.agg #[.int .i64 1, .int .i64 3]) := by rw [ha]; exact putSel_on (e := (1, 16, .agg #[.int .i64 1, .int .i64 3])) 0 rfl rfl (hon 1 (by kernel_rfl)) rfl
   have e17 : a.tmps[17]? = some (.agg #[.int .i64 1, .int .i64 3]) := by rw [ha]; exact putSel_on (e := (2, 17, .agg #[.int .i64 1, .int .i64 3])) 1 rfl rfl (hon 2 (by kernel_rfl)) rfl
   have e18 : a.tmps[18]? = some (.agg #[.int .i64 2, .int .i64 0]) := by rw [ha]; exact putSel_on (e := (3, 18, .agg #[.int .i64 2, .int .i64 0])) 2 rfl rfl (hon 3 (by kernel_rfl)) rfl
   have e19 : a.tmps[19]? = some (.agg #[.int .i64 1, .int .i64 8]) := by rw [ha]; exact putSel_on (e := (4, 19, .agg #[.int .i64 1, .int .i64 8])) 3 rfl rfl (hon 4 (by kernel_rfl)) rfl
   have e20 : a.tmps[20]? = some (.agg #[.int .i64 3, .int .i64 0]) := by rw [ha]; exact putSel_on (e := (5, 20, .agg #[.int .i64 3, .int .i64 0])) 4 rfl rfl (hon 5 (by kernel_rfl)) rfl
   replace ha := Aside0.mk ha
   have HO167 := Aside0.mk Q_HO167
   have BK168 := Aside0.mk Q_BK168
   have BK169 := Aside0.mk Q_BK169
   have BK170 := Aside0.mk Q_BK170
   have BK171 := Aside0.mk Q_BK171
   have HB := Aside0.mk Q_HB
   refine Kd.R_lit_step k54 _ 54 ?hg (N := 21) ?hd (xs := ([(⟨1, 3⟩ : S54), (⟨1, 3⟩ : S54), (⟨2, 0⟩ : S54), (⟨1, 8⟩ : S54), (⟨3, 0⟩ : S54)] : List (S54))) (inner := [.int .i64 1, .int .i64 3, .int .i64 1, .int .i64 3, .int .i64 2, .int .i64 0, .int .i64 1, .int .i64 8, .int .i64 3, .int .i64 0]) (ok := fun _ => True) (okp := fun _ => True) ?hr ?hp (fun _ hk => hk) trivial (Below.refl _ _) (Nat.le_refl _) (by simp) ?_; (case hd => rfl); (case hg => rfl); (case hr => first | (go_simp; done) | (go_simp; rfl)); (case hp => exact (Reps.c2 (show Kd.M k54 _ _ _ (⟨1, 3⟩ : S54) [.int .i64 1, .int .i64 3] from (k54_mkM _ _ _ (⟨1, 3⟩ : S54) )) (Reps.c2 (show Kd.M k54 _ _ _ (⟨1, 3⟩ : S54) [.int .i64 1, .int .i64 3] from (k54_mkM _ _ _ (⟨1, 3⟩ : S54) )) (Reps.c2 (show Kd.M k54 _ _ _ (⟨2, 0⟩ : S54) [.int .i64 2, .int .i64 0] from (k54_mkM _ _ _ (⟨2, 0⟩ : S54) )) (Reps.c2 (show Kd.M k54 _ _ _ (⟨1, 8⟩ : S54) [.int .i64 1, .int .i64 8] from (k54_mkM _ _ _ (⟨1, 8⟩ : S54) )) (Reps.c2 (show Kd.M k54 _ _ _ (⟨3, 0⟩ : S54) [.int .i64 3, .int .i64 0] from (k54_mkM _ _ _ (⟨3, 0⟩ : S54) )) (Reps.none _ _)))))))
   intro v173 w19 ho20 hb hg_ hnew_
   clear hg_ hnew_
   (first | rw [← Ny172.out] at ho20 | (simp only [Int.reduceToNat] at ho20; rw [← Ny172.out] at ho20))
   have n0_ := Aside0.mk (Kd.R_below (zR HO167.out) hb)
   have n1_ := Aside0.mk (Kd.R_lower (Kd.R_newB (Kd.R_newB (Kd.R_newB (Kd.R_newB ho20 (g := gb168) (o := .cells #[.int .i64 1, .int .i64 3] 54 (0, 0)) (zB BK168.out)) (g := gb169) (o := .cells #[.int .i64 1, .int .i64 8] 54 (0, 0)) (zB BK169.out)) (g := gb170) (o := .cells #[.int .i64 2, .int .i64 0] 54 (0, 0)) (zB BK170.out)) (g := gb171) (o := .cells #[.int .i64 3, .int .i64 0] 54 (0, 0)) (zB BK171.out)) (below_size (by repeat (first | (with_reducible first | exact HB.out | apply below_alloc | apply pw_below_drewN | apply below_drew1 | refine below_set ?_ GE168.out | refine below_set ?_ GE169.out | refine below_set ?_ GE170.out | refine below_set ?_ GE171.out) | exact HB.out))))
   have n2_ := Aside0.mk (blk_below (g := gb168) (o := .cells #[.int .i64 1, .int .i64 3] 54 (0, 0)) (zB BK168.out) hb)
   have n3_ := Aside0.mk (blk_below (g := gb169) (o := .cells #[.int .i64 1, .int .i64 8] 54 (0, 0)) (zB BK169.out) hb)
   have n4_ := Aside0.mk (blk_below (g := gb170) (o := .cells #[.int .i64 2, .int .i64 0] 54 (0, 0)) (zB BK170.out) hb)
   have n5_ := Aside0.mk (blk_below (g := gb171) (o := .cells #[.int .i64 3, .int .i64 0] 54 (0, 0)) (zB BK171.out) hb)
   have n6_ := Aside0.mk (below_step (by repeat (first | (with_reducible first | exact HB.out | apply below_alloc | apply pw_below_drewN | apply below_drew1 | refine below_set ?_ GE168.out | refine below_set ?_ GE169.out | refine below_set ?_ GE170.out | refine below_set ?_ GE171.out) | exact HB.out)) hb)
   have z_HO177 := fun (h0_ : b 12 = true) => (show Kd.R k54 54 w19 w.heap.size (fun k_ => k_ ≠ gb168 ∧ k_ ≠ gb169 ∧ k_ ≠ gb170 ∧ k_ ≠ gb171) v176 y175 from by first | exact (Kd.R_elder' (by (with_reducible repeat (first | apply Kd.R_alloc | apply Kd.R_drewN | apply Kd.R_drew)); exact (Q_HO177 h0_)) (Kd.R_base ho20) hb) | exact Kd.R_mono (Kd.R_elder' (by (with_reducible repeat (first | apply Kd.R_alloc | apply Kd.R_drewN | apply Kd.R_drew)); exact (Q_HO177 h0_)) (Kd.R_base ho20) hb) (fun _ h_ => by first | trivial | exact h_ | exact h_.1))
   clear HO167
   clear BK168
   clear BK169
   clear BK170
   clear BK171
   clear HB
   have HO167 := n0_
   have HO174 := n1_
   have BK168 := n2_
   have BK169 := n3_
   have BK170 := n4_
   have BK171 := n5_
   have HB := n6_
   clear n0_ n1_ n2_ n3_ n4_ n5_ n6_
   clear hb ho20
   refine hK.out _ _ ⟨v173, v176, m14_, m15_, (by rw [ha.out]; exact putSel_upk 5 hb_ rfl rfl rfl), (zR HO167.out), (zB BK168.out), (zB BK169.out), (zB BK170.out), (zB BK171.out), (by repeat (first | (with_reducible first | exact HB.out | apply below_alloc | apply pw_below_drewN | apply below_drew1 | refine below_set ?_ GE168.out | refine below_set ?_ GE169.out | refine below_set ?_ GE170.out | refine below_set ?_ GE171.out) | exact HB.out)), fun _ => (by (with_reducible repeat (first | apply Kd.R_alloc | apply Kd.R_drewN | apply Kd.R_drew)); exact Kd.R_mono HO174.out (fun _ hk => ⟨hk.1.1.1.2, ⟨hk.1.1.2, ⟨hk.1.2, hk.2⟩⟩⟩)), z_HO177, fun h0_ => absurd ((hoff 14 (by kernel_rfl)).symm.trans h0_) (by decide), fun h0_ => absurd ((hoff 15 (by kernel_rfl)).symm.trans h0_) (by decide)⟩
  refine steps_cons ?_ ?_
  ·rintro b a w' ⟨v173, v176, m14_, m15_, ha, Q_HO167, Q_BK168, Q_BK169, Q_BK170, Q_BK171, Q_HB, Q_HO174, Q_HO177, Q_X14_, Q_X15_⟩ hb_ hon hoff
   refine ⟨_, rfl, fun K hK => ?_⟩
   have e4 : a.tmps[4]? = some (.pointer (some ⟨gb168, 0, none⟩)) := by rw [ha]; exact (putSel_off rfl).trans rfl
   replace ha := Aside0.mk ha
   have HO167 := Aside0.mk Q_HO167
   have BK168 := Aside0.mk Q_BK168
   have BK169 := Aside0.mk Q_BK169
   have BK170 := Aside0.mk Q_BK170
   have BK171 := Aside0.mk Q_BK171
   have HB := Aside0.mk Q_HB
   have hc0_ : w'.cell? ⟨gb168, 0, none⟩ = some (.int .i64 1) := (blk_cell BK168.out 0).trans rfl
   have hc1_ : w'.cell? ⟨gb168, 1, none⟩ = some (.int .i64 3) := (blk_cell BK168.out 1).trans rfl
   refine value_ (w1 := w') (v := .agg #[.int .i64 1, .int .i64 3]) (by rfl) rfl ?_ ?_
   ·go_simp
    (try simp only [i64_w])
    try rfl
   refine hK.out _ _ ⟨v173, v176, m14_, m15_, (by rw [ha.out]; exact putSel_upk 6 hb_ rfl rfl rfl), Q_HO167, Q_BK168, Q_BK169, Q_BK170, Q_BK171, Q_HB, Q_HO174, fun h0_ => absurd ((hoff 12 (by kernel_rfl)).symm.trans h0_) (by decide), Q_X14_, fun h0_ => absurd ((hoff 15 (by kernel_rfl)).symm.trans h0_) (by decide)⟩
  refine steps_cons ?_ ?_
  ·rintro b a w' ⟨v173, v176, m14_, m15_, ha, Q_HO167, Q_BK168, Q_BK169, Q_BK170, Q_BK171, Q_HB, Q_HO174, Q_HO177, Q_X14_, Q_X15_⟩ hb_ hon hoff
   refine ⟨_, rfl, fun K hK => ?_⟩
   have e7 : a.tmps[7]? = some (.pointer (some ⟨gb171, 0, none⟩)) := by rw [ha]; exact (putSel_off rfl).trans rfl
   replace ha := Aside0.mk ha
   have HO167 := Aside0.mk Q_HO167
   have BK168 := Aside0.mk Q_BK168
   have BK169 := Aside0.mk Q_BK169
   have BK170 := Aside0.mk Q_BK170
   have BK171 := Aside0.mk Q_BK171
   have HB := Aside0.mk Q_HB
   have hc0_ : w'.cell? ⟨gb171, 0, none⟩ = some (.int .i64 3) := (blk_cell BK171.out 0).trans rfl
   have hc1_ : w'.cell? ⟨gb171, 1, none⟩ = some (.int .i64 0) := (blk_cell BK171.out 1).trans rfl
   refine value_ (w1 := w') (v := .agg #[.int .i64 3, .int .i64 0]) (by rfl) rfl ?_ ?_
   ·go_simp
    (try simp only [i64_w])
    try rfl
   refine hK.out _ _ ⟨v173, v176, m14_, m15_, (by rw [ha.out]; exact putSel_upk 7 hb_ rfl rfl rfl), Q_HO167, Q_BK168, Q_BK169, Q_BK170, Q_BK171, Q_HB, Q_HO174, fun h0_ => absurd ((hoff 12 (by kernel_rfl)).symm.trans h0_) (by decide), Q_X14_, fun h0_ => absurd ((hoff 15 (by kernel_rfl)).symm.trans h0_) (by decide)⟩
  refine steps_cons ?_ ?_
  ·rintro b a w' ⟨v173, v176, m14_, m15_, ha, Q_HO167, Q_BK168, Q_BK169, Q_BK170, Q_BK171, Q_HB, Q_HO174, Q_HO177, Q_X14_, Q_X15_⟩ hb_ hon hoff
   refine ⟨_, rfl, fun K hK => ?_⟩
   have e6 : a.tmps[6]? = some (.pointer (some ⟨gb170, 0, none⟩)) := by rw [ha]; exact (putSel_off rfl).trans rfl
   replace ha := Aside0.mk ha
   have HO167 := Aside0.mk Q_HO167
   have BK168 := Aside0.mk Q_BK168
   have BK169 := Aside0.mk Q_BK169
   have BK170 := Aside0.mk Q_BK170
   have BK171 := Aside0.mk Q_BK171
   have HB := Aside0.mk Q_HB
   have hc0_ : w'.cell? ⟨gb170, 0, none⟩ = some (.int .i64 2) := (blk_cell BK170.out 0).trans rfl
   have hc1_ : w'.cell? ⟨gb170, 1, none⟩ = some (.int .i64 0) := (blk_cell BK170.out 1).trans rfl
   refine value_ (w1 := w') (v := .agg #[.int .i64 2, .int .i64 0]) (by rfl) rfl ?_ ?_
   ·go_simp
    (try simp only [i64_w])
    try rfl
   refine hK.out _ _ ⟨v173, v176, m14_, m15_, (by rw [ha.out]; exact putSel_upk 8 hb_ rfl rfl rfl), Q_HO167, Q_BK168, Q_BK169, Q_BK170, Q_BK171, Q_HB, Q_HO174, fun h0_ => absurd ((hoff 12 (by kernel_rfl)).symm.trans h0_) (by decide), Q_X14_, fun h0_ => absurd ((hoff 15 (by kernel_rfl)).symm.trans h0_) (by decide)⟩
  refine steps_cons ?_ ?_
  ·rintro b a w' ⟨v173, v176, m14_, m15_, ha, Q_HO167, Q_BK168, Q_BK169, Q_BK170, Q_BK171, Q_HB, Q_HO174, Q_HO177, Q_X14_, Q_X15_⟩ hb_ hon hoff
   refine ⟨_, rfl, fun K hK => ?_⟩
   have e5 : a.tmps[5]? = some (.pointer (some ⟨gb169, 0, none⟩)) := by rw [ha]; exact (putSel_off rfl).trans rfl
   replace ha := Aside0.mk ha
   have HO167 := Aside0.mk Q_HO167
   have BK168 := Aside0.mk Q_BK168
   have BK169 := Aside0.mk Q_BK169
   have BK170 := Aside0.mk Q_BK170
   have BK171 := Aside0.mk Q_BK171
   have HB := Aside0.mk Q_HB
   have hc0_ : w'.cell? ⟨gb169, 0, none⟩ = some (.int .i64 1) := (blk_cell BK169.out 0).trans rfl
   have hc1_ : w'.cell? ⟨gb169, 1, none⟩ = some (.int .i64 8) := (blk_cell BK169.out 1).trans rfl
   refine value_ (w1 := w') (v := .agg #[.int .i64 1, .int .i64 8]) (by rfl) rfl ?_ ?_
   ·go_simp
    (try simp only [i64_w])
    try rfl
   refine hK.out _ _ ⟨v173, v176, m14_, m15_, (by rw [ha.out]; exact putSel_upk 9 hb_ rfl rfl rfl), Q_HO167, Q_BK168, Q_BK169, Q_BK170, Q_BK171, Q_HB, Q_HO174, fun h0_ => absurd ((hoff 12 (by kernel_rfl)).symm.trans h0_) (by decide), Q_X14_, fun h0_ => absurd ((hoff 15 (by kernel_rfl)).symm.trans h0_) (by decide)⟩
  refine steps_cons ?_ ?_
  ·rintro b a w' ⟨v173, v176, m14_, m15_, ha, Q_HO167, Q_BK168, Q_BK169, Q_BK170, Q_BK171, Q_HB, Q_HO174, Q_HO177, Q_X14_, Q_X15_⟩ hb_ hon hoff
   refine ⟨_, rfl, fun K hK => ?_⟩
   have e5 : a.tmps[5]? = some (.pointer (some ⟨gb169, 0, none⟩)) := by rw [ha]; exact (putSel_off rfl).trans rfl
   replace ha := Aside0.mk ha
   have HO167 := Aside0.mk Q_HO167
   have BK168 := Aside0.mk Q_BK168
   have BK169 := Aside0.mk Q_BK169
   have BK170 := Aside0.mk Q_BK170
   have BK171 := Aside0.mk Q_BK171
   have HB := Aside0.mk Q_HB
   have hc0_ : w'.cell? ⟨gb169, 0, none⟩ = some (.int .i64 1) := (blk_cell BK169.out 0).trans rfl
   have hc1_ : w'.cell? ⟨gb169, 1, none⟩ = some (.int .i64 8) := (blk_cell BK169.out 1).trans rfl
   refine value_ (w1 := w') (v := .agg #[.int .i64 1, .int .i64 8]) (by rfl) rfl ?_ ?_
   ·go_simp
    (try simp only [i64_w])
    try rfl
   refine hK.out _ _ ⟨v173, v176, m14_, m15_, (by rw [ha.out]; exact putSel_upk 10 hb_ rfl rfl rfl), Q_HO167, Q_BK168, Q_BK169, Q_BK170, Q_BK171, Q_HB, Q_HO174, fun h0_ => absurd ((hoff 12 (by kernel_rfl)).symm.trans h0_) (by decide), Q_X14_, fun h0_ => absurd ((hoff 15 (by kernel_rfl)).symm.trans h0_) (by decide)⟩
  refine steps_cons ?_ ?_
  ·rintro b a w' ⟨v173, v176, m14_, m15_, ha, Q_HO167, Q_BK168, Q_BK169, Q_BK170, Q_BK171, Q_HB, Q_HO174, Q_HO177, Q_X14_, Q_X15_⟩ hb_ hon hoff
   refine ⟨_, rfl, fun K hK => ?_⟩
   have e22 : a.tmps[22]? = some (.agg #[.int .i64 1, .int .i64 3]) := by rw [ha]; exact putSel_on (e := (7, 22, .agg #[.int .i64 1, .int .i64 3])) 6 rfl rfl (hon 7 (by kernel_rfl)) rfl
   have e23 : a.tmps[23]? = some (.agg #[.int .i64 3, .int .i64 0]) := by rw [ha]; exact putSel_on (e := (8, 23, .agg #[.int .i64 3, .int .i64 0])) 7 rfl rfl (hon 8 (by kernel_rfl)) rfl
   have e24 : a.tmps[24]? = some (.agg #[.int .i64 2, .int .i64 0]) := by rw [ha]; exact putSel_on (e := (9, 24, .agg #[.int .i64 2, .int .i64 0])) 8 rfl rfl (hon 9 (by kernel_rfl)) rfl
   have e25 : a.tmps[25]? = some (.agg #[.int .i64 1, .int .i64 8]) := by rw [ha]; exact putSel_on (e := (10, 25, .agg #[.int .i64 1, .int .i64 8])) 9 rfl rfl (hon 10 (by kernel_rfl)) rfl
   have e26 : a.tmps[26]? = some (.agg #[.int .i64 1, .int .i64 8]) := by rw [ha]; exact putSel_on (e := (11, 26, .agg #[.int .i64 1, .int .i64 8])) 10 rfl rfl (hon 11 (by kernel_rfl)) rfl
   replace ha := Aside0.mk ha
   have HO167 := Aside0.mk Q_HO167
   have BK168 := Aside0.mk Q_BK168
   have BK169 := Aside0.mk Q_BK169
   have BK170 := Aside0.mk Q_BK170
   have BK171 := Aside0.mk Q_BK171
   have HB := Aside0.mk Q_HB
   refine Kd.R_lit_step k54 _ 54 ?hg (N := 27) ?hd (xs := ([(⟨1, 3⟩ : S54), (⟨3, 0⟩ : S54), (⟨2, 0⟩ : S54), (⟨1, 8⟩ : S54), (⟨1, 8⟩ : S54)] : List (S54))) (inner := [.int .i64 1, .int .i64 3, .int .i64 3, .int .i64 0, .int .i64 2, .int .i64 0, .int .i64 1, .int .i64 8, .int .i64 1, .int .i64 8]) (ok := fun _ => True) (okp := fun _ => True) ?hr ?hp (fun _ hk => hk) trivial (Below.refl _ _) (Nat.le_refl _) (by simp) ?_; (case hd => rfl); (case hg => rfl); (case hr => first | (go_simp; done) | (go_simp; rfl)); (case hp => exact (Reps.c2 (show Kd.M k54 _ _ _ (⟨1, 3⟩ : S54) [.int .i64 1, .int .i64 3] from (k54_mkM _ _ _ (⟨1, 3⟩ : S54) )) (Reps.c2 (show Kd.M k54 _ _ _ (⟨3, 0⟩ : S54) [.int .i64 3, .int .i64 0] from (k54_mkM _ _ _ (⟨3, 0⟩ : S54) )) (Reps.c2 (show Kd.M k54 _ _ _ (⟨2, 0⟩ : S54) [.int .i64 2, .int .i64 0] from (k54_mkM _ _ _ (⟨2, 0⟩ : S54) )) (Reps.c2 (show Kd.M k54 _ _ _ (⟨1, 8⟩ : S54) [.int .i64 1, .int .i64 8] from (k54_mkM _ _ _ (⟨1, 8⟩ : S54) )) (Reps.c2 (show Kd.M k54 _ _ _ (⟨1, 8⟩ : S54) [.int .i64 1, .int .i64 8] from (k54_mkM _ _ _ (⟨1, 8⟩ : S54) )) (Reps.none _ _)))))))
   intro v176 w19 ho20 hb hg_ hnew_
   clear hg_ hnew_
   (first | rw [← Ny175.out] at ho20 | (simp only [Int.reduceToNat] at ho20; rw [← Ny175.out] at ho20))
   have n0_ := Aside0.mk (Kd.R_below (zR HO167.out) hb)
   have n1_ := Aside0.mk (Kd.R_lower (Kd.R_newB (Kd.R_newB (Kd.R_newB (Kd.R_newB ho20 (g := gb168) (o := .cells #[.int .i64 1, .int .i64 3] 54 (0, 0)) (zB BK168.out)) (g := gb169) (o := .cells #[.int .i64 1, .int .i64 8] 54 (0, 0)) (zB BK169.out)) (g := gb170) (o := .cells #[.int .i64 2, .int .i64 0] 54 (0, 0)) (zB BK170.out)) (g := gb171) (o := .cells #[.int .i64 3, .int .i64 0] 54 (0, 0)) (zB BK171.out)) (below_size (by repeat (first | (with_reducible first | exact HB.out | apply below_alloc | apply pw_below_drewN | apply below_drew1 | refine below_set ?_ GE168.out | refine below_set ?_ GE169.out | refine below_set ?_ GE170.out | refine below_set ?_ GE171.out) | exact HB.out))))
   have n2_ := Aside0.mk (blk_below (g := gb168) (o := .cells #[.int .i64 1, .int .i64 3] 54 (0, 0)) (zB BK168.out) hb)
   have n3_ := Aside0.mk (blk_below (g := gb169) (o := .cells #[.int .i64 1, .int .i64 8] 54 (0, 0)) (zB BK169.out) hb)
   have n4_ := Aside0.mk (blk_below (g := gb170) (o := .cells #[.int .i64 2, .int .i64 0] 54 (0, 0)) (zB BK170.out) hb)
   have n5_ := Aside0.mk (blk_below (g := gb171) (o := .cells #[.int .i64 3, .int .i64 0] 54 (0, 0)) (zB BK171.out) hb)
   have n6_ := Aside0.mk (below_step (by repeat (first | (with_reducible first | exact HB.out | apply below_alloc | apply pw_below_drewN | apply below_drew1 | refine below_set ?_ GE168.out | refine below_set ?_ GE169.out | refine below_set ?_ GE170.out | refine below_set ?_ GE171.out) | exact HB.out)) hb)
   have z_HO174 := fun (h0_ : b 6 = true) => (show Kd.R k54 54 w19 w.heap.size (fun k_ => k_ ≠ gb168 ∧ k_ ≠ gb169 ∧ k_ ≠ gb170 ∧ k_ ≠ gb171) v173 y172 from by first | exact (Kd.R_elder' (by (with_reducible repeat (first | apply Kd.R_alloc | apply Kd.R_drewN | apply Kd.R_drew)); exact (Q_HO174 h0_)) (Kd.R_base ho20) hb) | exact Kd.R_mono (Kd.R_elder' (by (with_reducible repeat (first | apply Kd.R_alloc | apply Kd.R_drewN | apply Kd.R_drew)); exact (Q_HO174 h0_)) (Kd.R_base ho20) hb) (fun _ h_ => by first | trivial | exact h_ | exact h_.1))
   clear HO167
   clear BK168
   clear BK169
   clear BK170
   clear BK171
   clear HB
   have HO167 := n0_
   have HO177 := n1_
   have BK168 := n2_
   have BK169 := n3_
   have BK170 := n4_
   have BK171 := n5_
   have HB := n6_
   clear n0_ n1_ n2_ n3_ n4_ n5_ n6_
   clear hb ho20
   refine hK.out _ _ ⟨v173, v176, m14_, m15_, (by rw [ha.out]; exact putSel_upk 11 hb_ rfl rfl rfl), (zR HO167.out), (zB BK168.out), (zB BK169.out), (zB BK170.out), (zB BK171.out), (by repeat (first | (with_reducible first | exact HB.out | apply below_alloc | apply pw_below_drewN | apply below_drew1 | refine below_set ?_ GE168.out | refine below_set ?_ GE169.out | refine below_set ?_ GE170.out | refine below_set ?_ GE171.out) | exact HB.out)), z_HO174, fun _ => (by (with_reducible repeat (first | apply Kd.R_alloc | apply Kd.R_drewN | apply Kd.R_drew)); exact Kd.R_mono HO177.out (fun _ hk => ⟨hk.1.1.1.2, ⟨hk.1.1.2, ⟨hk.1.2, hk.2⟩⟩⟩)), Q_X14_, fun h0_ => absurd ((hoff 15 (by kernel_rfl)).symm.trans h0_) (by decide)⟩
  refine steps_cons ?_ ?_
  ·rintro b a w' ⟨v173, v176, m14_, m15_, ha, Q_HO167, Q_BK168, Q_BK169, Q_BK170, Q_BK171, Q_HB, Q_HO174, Q_HO177, Q_X14_, Q_X15_⟩ hb_ hon hoff
   refine ⟨_, rfl, fun K hK => ?_⟩
   have e15 : a.tmps[15]? = some (v166) := by rw [ha]; exact (putSel_off rfl).trans rfl
   replace ha := Aside0.mk ha
   have HO167 := Aside0.mk Q_HO167
   have BK168 := Aside0.mk Q_BK168
   have BK169 := Aside0.mk Q_BK169
   have BK170 := Aside0.mk Q_BK170
   have BK171 := Aside0.mk Q_BK171
   have HB := Aside0.mk Q_HB
   refine value_ (w1 := w') (v := v166) (by rfl) rfl ?_ ?_
   ·go_simp
    (try simp only [i64_w])
    try rfl
   refine hK.out _ _ ⟨v173, v176, m14_, m15_, (by rw [ha.out]; exact putSel_upk 12 hb_ rfl rfl rfl), Q_HO167, Q_BK168, Q_BK169, Q_BK170, Q_BK171, Q_HB, Q_HO174, Q_HO177, fun h0_ => absurd ((hoff 14 (by kernel_rfl)).symm.trans h0_) (by decide), fun h0_ => absurd ((hoff 15 (by kernel_rfl)).symm.trans h0_) (by decide)⟩
  refine steps_cons ?_ ?_
  ·rintro b a w' ⟨v173, v176, m14_, m15_, ha, Q_HO167, Q_BK168, Q_BK169, Q_BK170, Q_BK171, Q_HB, Q_HO174, Q_HO177, Q_X14_, Q_X15_⟩ hb_ hon hoff
   refine ⟨_, rfl, fun K hK => ?_⟩
   have e21 : a.tmps[21]? = some (v173) := by rw [ha]; exact putSel_on (e := (6, 21, v173)) 5 rfl rfl (hon 6 (by kernel_rfl)) rfl
   replace ha := Aside0.mk ha
   have HO167 := Aside0.mk Q_HO167
   have BK168 := Aside0.mk Q_BK168
   have BK169 := Aside0.mk Q_BK169
   have BK170 := Aside0.mk Q_BK170
   have BK171 := Aside0.mk Q_BK171
   have HB := Aside0.mk Q_HB
   have HO174 := Aside0.mk (Q_HO174 (hon 6 (by kernel_rfl)))
   refine value_ (w1 := w') (v := v173) (by rfl) rfl ?_ ?_
   ·go_simp
    (try simp only [i64_w])
    try rfl
   refine hK.out _ _ ⟨v173, v176, (v173), m15_, (by rw [ha.out]; exact putSel_upk 13 hb_ rfl rfl rfl), Q_HO167, Q_BK168, Q_BK169, Q_BK170, Q_BK171, Q_HB, Q_HO174, Q_HO177, fun _ => rfl, fun h0_ => absurd ((hoff 15 (by kernel_rfl)).symm.trans h0_) (by decide)⟩
  refine steps_cons ?_ ?_
  ·rintro b a w' ⟨v173, v176, m14_, m15_, ha, Q_HO167, Q_BK168, Q_BK169, Q_BK170, Q_BK171, Q_HB, Q_HO174, Q_HO177, Q_X14_, Q_X15_⟩ hb_ hon hoff
   refine ⟨_, rfl, fun K hK => ?_⟩
   have e27 : a.tmps[27]? = some (v176) := by rw [ha]; exact putSel_on (e := (12, 27, v176)) 11 rfl rfl (hon 12 (by kernel_rfl)) rfl
   replace ha := Aside0.mk ha
   have HO167 := Aside0.mk Q_HO167
   have BK168 := Aside0.mk Q_BK168
   have BK169 := Aside0.mk Q_BK169
   have BK170 := Aside0.mk Q_BK170
   have BK171 := Aside0.mk Q_BK171
   have HB := Aside0.mk Q_HB
   have HO174 := Aside0.mk (Q_HO174 (hon 6 (by kernel_rfl)))
   have HO177 := Aside0.mk (Q_HO177 (hon 12 (by kernel_rfl)))
   refine value_ (w1 := w') (v := v176) (by rfl) rfl ?_ ?_
   ·go_simp
    (try simp only [i64_w])
    try rfl
   refine hK.out _ _ ⟨v173, v176, m14_, (v176), (by rw [ha.out]; exact putSel_upk 14 hb_ rfl rfl rfl), Q_HO167, Q_BK168, Q_BK169, Q_BK170, Q_BK171, Q_HB, Q_HO174, Q_HO177, Q_X14_, fun _ => rfl⟩
  exact steps_nil
 rintro b a w23 hall ⟨v173, v176, m14_, m15_, ha, Q_HO167, Q_BK168, Q_BK169, Q_BK170, Q_BK171, Q_HB, Q_HO174, Q_HO177, Q_X14_, Q_X15_⟩
 clear BK168 BK169 BK170 BK171 HB HO167
 have hb1_ := hall 1 (by kernel_rfl)
 have hb2_ := hall 2 (by kernel_rfl)
 have hb3_ := hall 3 (by kernel_rfl)
 have hb4_ := hall 4 (by kernel_rfl)
 have hb5_ := hall 5 (by kernel_rfl)
 have hb6_ := hall 6 (by kernel_rfl)
 have hb7_ := hall 7 (by kernel_rfl)
 have hb8_ := hall 8 (by kernel_rfl)
 have hb9_ := hall 9 (by kernel_rfl)
 have hb10_ := hall 10 (by kernel_rfl)
 have hb11_ := hall 11 (by kernel_rfl)
 have hb12_ := hall 12 (by kernel_rfl)
 have hb13_ := hall 13 (by kernel_rfl)
 have hb14_ := hall 14 (by kernel_rfl)
 have hb15_ := hall 15 (by kernel_rfl)
 subst ha
 obtain rfl := Q_X14_ hb14_
 obtain rfl := Q_X15_ hb15_
 simp only [putSel, hb1_, hb2_, hb3_, hb4_, hb5_, hb6_, hb7_, hb8_, hb9_, hb10_, hb11_, hb12_, hb13_, hb14_, hb15_, if_true, Act.put, List.setIfInBounds_toArray, List.set_cons_zero, List.set_cons_succ]
 have HO167 := Aside0.mk Q_HO167
 clear Q_HO167
 have BK168 := Aside0.mk Q_BK168
 clear Q_BK168
 have BK169 := Aside0.mk Q_BK169
 clear Q_BK169
 have BK170 := Aside0.mk Q_BK170
 clear Q_BK170
 have BK171 := Aside0.mk Q_BK171
 clear Q_BK171
 have HB := Aside0.mk Q_HB
 clear Q_HB
 have HO174 := Aside0.mk (Q_HO174 hb6_)
 clear Q_HO174
 have HO177 := Aside0.mk (Q_HO177 hb12_)
 clear Q_HO177
 clear hall hb1_ hb2_ hb3_ hb4_ hb5_ hb6_ hb7_ hb8_ hb9_ hb10_ hb11_ hb12_ hb13_ hb14_ hb15_
 try go_wp2
 go_ret3
 exact ⟨_, _, _, by first | rfl | (simp [errW_none, errW_some] <;> rfl) | (simp [*, errW_none, errW_some] <;> rfl), zR HO167.out, by (with_reducible repeat (first | apply Kd.R_alloc | apply Kd.R_drewN | apply Kd.R_drew)); exact ex_apart HO174.out HO177.out (by rw [Ny172.out]; decide) (by rw [Ny175.out]; decide) (by rw [Ny172.out, Ny175.out]; decide), by (with_reducible repeat (first | apply Kd.R_alloc | apply Kd.R_drewN | apply Kd.R_drew)); exact ex_apart HO177.out HO174.out (by rw [Ny175.out]; decide) (by rw [Ny172.out]; decide) (by rw [Ny172.out, Ny175.out]; decide), by repeat (first | (with_reducible first | exact HB.out | apply below_alloc | apply pw_below_drewN | apply below_drew1 | refine below_set ?_ GE168.out | refine below_set ?_ GE169.out | refine below_set ?_ GE170.out | refine below_set ?_ GE171.out) | exact HB.out)⟩

end Go.Proofs.YtglcdgalimgkeaaDoor.PJB
