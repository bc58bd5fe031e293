-- PRINTED by print.py (a twelfth state) out of the translation. Not trusted: Lean checks it.
import Derived.Test.YtglcdgalimgkeaaDoorSteps
import Derived.Test.YtglcdgalimgkeaaDoorPJBx0
import Derived.Test.YtglcdgalimgkeaaDoorPJBx6
import Derived.Test.YtglcdgalimgkeaaDoorPJBx10
namespace Go.Proofs.YtglcdgalimgkeaaDoor.PJB
open Go.RowKit Go.Proofs.YtglcdgalimgkeaaDoorW.PrintWords Go.Proofs.YtglcdgalimgkeaaDoorW.PrintLast Go.Proofs.YtglcdgalimgkeaaDoorW.PrintMore
attribute [local go_sem] max2_int min2_int max_two min_two max_three min_three max_four min_four   -- for this text's walks alone
set_option linter.unusedVariables false
set_option linter.unusedSimpArgs false

/-! ### judge_evidence_valid: function 51 -/
def judge_evidence_valid.f (k : Nat) (l0_0 : List (S74)) (a0_1 : Int) (l0_2 : List (S54)) (l0_3 : List (S54)) : Option (Bool) := (timeline_Valid.f k l0_0).bind fun t113 => (if t113 = true then ((heard_ValidVerdicts.f k l0_2).bind fun t114 => (if t114 = true then ((heard_ValidVerdicts.f k l0_3).bind fun t115 => (if t115 = true then (if (l0_2.length : Int) = (l0_3.length : Int) then (if a0_1 ≥ 0 then ((timeline_End.f k l0_0).bind fun t116 => (some (decide (a0_1 ≤ (wrap64 (t116 - (l0_2.length : Int))))))) else (some false)) else (some false)) else (some false))) else (some false))) else (some false))
theorem judge_evidence_valid.mono : ∀ a0 a1 a2 a3 k, LeO (judge_evidence_valid.f k a0 a1 a2 a3) (judge_evidence_valid.f (k + 1) a0 a1 a2 a3) := by
 intro a0 a1 a2 a3 k
 unfold judge_evidence_valid.f
 repeat' first
   | (with_reducible exact heard_ValidVerdicts.mono _ _)
   | (with_reducible exact timeline_End.mono _ _)
   | (with_reducible exact timeline_Valid.mono _ _)
   | (with_reducible exact LeO.refl _)
   | (with_reducible exact LeO.none _)
   | (with_reducible refine LeO.ite ?_ ?_)
   | (with_reducible refine LeO.bind ?_ (fun _ => ?_))
   | exact heard_ValidVerdicts.mono _ _
   | exact timeline_End.mono _ _
   | exact timeline_Valid.mono _ _
   | exact LeO.none _
   | refine LeO.ite ?_ ?_
   | refine LeO.bind ?_ (fun _ => ?_)
def judge_evidence_valid.T1 : Bool × List (List Nat × List Nat) := (true, [([], []), ([0], [0]), ([1], [1]), ([2, 2], [2]), ([3], [3]), ([4, 3], [3, 4]), ([5, 3, 3], [3, 5]), ([3, 6], [3, 6]), ([7, 6], [7]), ([8], [8]), ([9, 8], [8, 9]), ([10, 8, 8], [8, 10]), ([8, 11], [8, 11]), ([12, 11], [12]), ([13], [13]), ([14, 13], [13, 14]), ([15, 13], [13, 15]), ([13], [13]), ([17, 13], [13, 17]), ([18, 13], [13, 18]), ([16, 19, 13], [13, 16, 19]), ([13, 20], [13, 20]), ([21, 13], [21]), ([22], [22]), ([23, 22], [22, 23]), ([24, 22], [22, 24]), ([22, 25], [22, 25]), ([26, 22], [26]), ([27], [27]), ([28, 27], [27, 28]), ([27], [27]), ([30, 27], [27, 30]), ([31, 27, 27], [27, 31]), ([27], [27]), ([33, 27], [27, 33]), ([34, 27], [27, 34]), ([32, 35, 27], [27, 32, 35]), ([29, 36, 27], [27, 29, 36]), ([27, 37], [27, 37]), ([38, 32, 0, 1, 2, 3, 4, 5, 6, 7, 8, 9, 10, 11, 12, 13, 14, 15, 16, 17, 18, 19, 20, 21, 22, 23, 24, 25, 26, 27, 28, 29, 30, 31, 32, 33, 34, 35, 36, 37, 38], [38])])
def judge_evidence_valid.B1 : List Nat := [0, 1, 3, 7, 15, 31, 63, 127, 255, 511, 1023, 2047, 4095, 8191, 16383, 32767, 65535, 16383, 147455, 409599, 1048575, 2097151, 4194303, 8388607, 16777215, 33554431, 67108863, 134217727, 268435455, 536870911, 268435455, 1342177279, 3489660927, 268435455, 8858370047, 26038239231, 67914170367, 137438953471, 274877906943, 549755813887]
theorem judge_evidence_valid.tab1 : rtab .any (opsOf Tryd.f51 1) = judge_evidence_valid.T1 := by kernel_rfl
theorem judge_evidence_valid.bits1 : waitsOk judge_evidence_valid.T1.2 judge_evidence_valid.B1 = true := by kernel_rfl
set_option maxHeartbeats 8000000 in
set_option maxRecDepth 100000 in
theorem judge_evidence_valid.calls (k : Nat) (A0_0 : Option Addr) (c0_0 : Nat) (l0_0 : List (S74)) (a0_1 : Int) (A0_2 : Option Addr) (c0_2 : Nat) (l0_2 : List (S54)) (A0_3 : Option Addr) (c0_3 : Nat) (l0_3 : List (S54)) (r : Bool) (w : World) (hr0_0 : Kd.C k74 w A0_0 l0_0.length l0_0) (hc0_0 : l0_0.length ≤ c0_0) (hr0_2 : Kd.C k54 w A0_2 l0_2.length l0_2) (hc0_2 : l0_2.length ≤ c0_2) (hr0_3 : Kd.C k54 w A0_3 l0_3.length l0_3) (hc0_3 : l0_3.length ≤ c0_3) (h : judge_evidence_valid.f k l0_0 a0_1 l0_2 l0_3 = some r) :
  Calls Tryd.prog 51 #[.agg #[.slice A0_0 l0_0.length c0_0, .int .i64 a0_1, .slice A0_2 l0_2.length c0_2, .slice A0_3 l0_3.length c0_3]] w fun e w' => e = .returned (.bool r) ∧ Below w.heap.size w w' := by
 have hu103 := Tryd.underlying103
 have HR0_0 := Aside0.mk hr0_0
 have HC0_0 := Aside0.mk hc0_0
 clear hr0_0 hc0_0
 have HR0_2 := Aside0.mk hr0_2
 have HC0_2 := Aside0.mk hc0_2
 clear hr0_2 hc0_2
 have HR0_3 := Aside0.mk hr0_3
 have HC0_3 := Aside0.mk hc0_3
 clear hr0_3 hc0_3
 have HB := Aside0.mk (Below.refl w.heap.size w)
 have H : ((timeline_Valid.f k l0_0).bind fun t113 => (if t113 = true then ((heard_ValidVerdicts.f k l0_2).bind fun t114 => (if t114 = true then ((heard_ValidVerdicts.f k l0_3).bind fun t115 => (if t115 = true then (if (l0_2.length : Int) = (l0_3.length : Int) then (if a0_1 ≥ 0 then ((timeline_End.f k l0_0).bind fun t116 => (some (decide (a0_1 ≤ (wrap64 (t116 - (l0_2.length : Int))))))) else (some false)) else (some false)) else (some false))) else (some false))) else (some false))) = some r := h
 clear h
 replace H := Option.bind_eq_some_iff.mp H
 obtain ⟨t113, A20, H⟩ := H
 have A2 := Aside0.mk A20
 clear A20
 by_cases c3 : t113 = true
 ·subst c3
  rw [if_pos rfl] at H
  replace H := Option.bind_eq_some_iff.mp H
  obtain ⟨t114, A40, H⟩ := H
  have A4 := Aside0.mk A40
  clear A40
  by_cases c5 : t114 = true
  ·subst c5
   rw [if_pos rfl] at H
   replace H := Option.bind_eq_some_iff.mp H
   obtain ⟨t115, A60, H⟩ := H
   have A6 := Aside0.mk A60
   clear A60
   by_cases c7 : t115 = true
   ·subst c7
    rw [if_pos rfl] at H
    by_cases c8 : (l0_2.length : Int) = (l0_3.length : Int)
    ·rw [if_pos c8] at H
     have c8b0 : ((l0_2.length : Int) == (l0_3.length : Int)) = true := beq_iff_eq.mpr c8
     have c8b1 : ((l0_2.length : Int) != (l0_3.length : Int)) = false := bne_eq_false_iff_eq.mpr c8
     have c8b2 : (l0_2.length == l0_3.length) = true := by first | simpa using c8 | (simp at c8 ⊢; omega)
     clear c8
     by_cases c9 : a0_1 ≥ 0
     ·rw [if_pos c9] at H
      have c9b0 : decide (0 ≤ a0_1) = true := decide_eq_true c9
      clear c9
      replace H := Option.bind_eq_some_iff.mp H
      obtain ⟨t116, A100, H⟩ := H
      have A10 := Aside0.mk A100
      clear A100
      obtain rfl := Option.some.inj H
      go_enter Tryd.func51, Tryd.ntmps51
      try go_wp2_with (first | ((with_reducible refine gate_dst (N := 1) rfl ?_); (try (refine gate_guard (by rfl) ?_; dsimp only)); refine box_event ?hg (N := 1) ?hd (cs := #[.slice A0_0 l0_0.length c0_0, .int .i64 a0_1, .slice A0_2 l0_2.length c0_2, .slice A0_3 l0_3.length c0_3]) (t := 103) ?hr ?_; (case hd => rfl); (case hg => rfl); (case hr => first | (go_simp; done) | (go_simp; rfl)); intro gb112 hg w11 hbox hb; have n0_ := Aside0.mk (below_step (zW HB.out) hb); have n1_ := Aside0.mk (hbox); have n2_ := Aside0.mk ((by rw [hg]; exact (below_size (zW HB.out)) : w.heap.size ≤ gb112)); have n3_ := Aside0.mk ((by rw [hg]; exact (below_size (zW HB.out)) : w.heap.size ≤ gb112)); clear HB; have HB := n0_; have BK112 := n1_; have GW112 := n2_; have GE112 := n3_; clear n0_ n1_ n2_ n3_; clear hb hbox hg))
      have n0_ := Aside0.mk (blk_drew BK112.out)
      have n1_ := Aside0.mk (below_drew1 HB.out)
      clear BK112
      clear HB
      have BK112 := n0_
      have HB := n1_
      clear n0_ n1_
      refine start_ (n := 40) (S := fun w' => w'.cell? ⟨gb112, 0, none⟩ = some (.slice A0_0 l0_0.length c0_0) ∧ w'.cell? ⟨gb112, 1, none⟩ = some (.int .i64 a0_1) ∧ w'.cell? ⟨gb112, 2, none⟩ = some (.slice A0_2 l0_2.length c0_2) ∧ w'.cell? ⟨gb112, 3, none⟩ = some (.slice A0_3 l0_3.length c0_3)) (ds := []) (bz 40 0) (by kernel_rfl) rfl rfl ⟨(blk_cell BK112.out 0).trans rfl, (blk_cell BK112.out 1).trans rfl, (blk_cell BK112.out 2).trans rfl, (blk_cell BK112.out 3).trans rfl⟩ (fun hHeld => ?_); refine with_tabW judge_evidence_valid.tab1 judge_evidence_valid.bits1 (fun HT_ HW_ => ?_)
      generalize w11.drew = w12 at BK112 HB hHeld ⊢
      refine zP 0 (some 3) (bz 40 1) HT_ ?_
      refine zT 1 (some 4) (bz 40 3) HT_ HW_ hHeld (v := ?_) ?_ ?_
      rotate_left
      ·rintro w' ⟨s0, s1, s2, s3⟩; go_simp; with_reducible rfl
      refine one_ (i := 2) (N := some 5) (bz 40 7) rfl rfl (one_of HT_.out (by kernel_rfl)) (by decide) (fun K hK => ?_)
      refine goes_ Tryd.func55 (by kernel_rfl) rfl #[.slice A0_0 l0_0.length c0_0] (by rfl) rfl rfl (by (try simp only [List.map_toArray, List.map_cons, List.map_nil]); first | done | rfl | (simp only [List.length_drop, List.length_take]; rfl)) ?_
      with_reducible refine (timeline_Valid.calls k _ _ l0_0 true _ ?side1 ?side2 A2.out).mono ?_
      (case side1 => exact zC (Kd.C_below HR0_0.out HB.out))
      (case side2 => exact HC0_0.out)
      rintro e w13 ⟨rfl, hb⟩
      refine ⟨_, rfl, ?_⟩
      have n0_ := Aside0.mk (blk_below (g := gb112) (o := .cells #[.slice A0_0 l0_0.length c0_0, .int .i64 a0_1, .slice A0_2 l0_2.length c0_2, .slice A0_3 l0_3.length c0_3] 103 (0, 0)) (zB BK112.out) hb)
      have n1_ := Aside0.mk (below_step (zX HB.out GE112.out) hb)
      clear BK112
      clear HB
      have BK112 := n0_
      have HB := n1_
      clear n0_ n1_
      (try clear hb)
      (try clear hb2)
      (try clear hk)
      (try clear hi)
      refine hK.out _ _ ⟨(blk_cell BK112.out 0).trans rfl, (blk_cell BK112.out 1).trans rfl, (blk_cell BK112.out 2).trans rfl, (blk_cell BK112.out 3).trans rfl⟩ (fun hHeld => ?_)
      clear hK K
      refine norm_ (a' := ?_) ?_ ?_
      rotate_left
      ·show Act.put _ (some 5) _ = _
       simp only [Act.put, List.setIfInBounds_toArray, List.set_cons_zero, List.set_cons_succ, i64_w, i32_w]
       rfl
      refine zP 3 (some 6) (bz 40 15) HT_ ?_
      refine zP 4 (some 7) (bz 40 31) HT_ ?_
      refine zT 5 (some 8) (bz 40 63) HT_ HW_ hHeld (v := ?_) ?_ ?_
      rotate_left
      ·rintro w' ⟨s0, s1, s2, s3⟩; go_simp; with_reducible rfl
      refine one_ (i := 6) (N := some 9) (bz 40 127) rfl rfl (one_of HT_.out (by kernel_rfl)) (by decide) (fun K hK => ?_)
      refine goes_ Tryd.func58 (by kernel_rfl) rfl #[.slice A0_2 l0_2.length c0_2] (by rfl) rfl rfl (by (try simp only [List.map_toArray, List.map_cons, List.map_nil]); first | done | rfl | (simp only [List.length_drop, List.length_take]; rfl)) ?_
      with_reducible refine (heard_ValidVerdicts.calls k _ _ l0_2 true _ ?side1 ?side2 A4.out).mono ?_
      (case side1 => exact zC (Kd.C_below HR0_2.out HB.out))
      (case side2 => exact HC0_2.out)
      rintro e w14 ⟨rfl, hb⟩
      refine ⟨_, rfl, ?_⟩
      have n0_ := Aside0.mk (blk_below (g := gb112) (o := .cells #[.slice A0_0 l0_0.length c0_0, .int .i64 a0_1, .slice A0_2 l0_2.length c0_2, .slice A0_3 l0_3.length c0_3] 103 (0, 0)) (zB BK112.out) hb)
      have n1_ := Aside0.mk (below_step (zX HB.out GE112.out) hb)
      clear BK112
      clear HB
      have BK112 := n0_
      have HB := n1_
      clear n0_ n1_
      (try clear hb)
      (try clear hb2)
      (try clear hk)
      (try clear hi)
      refine hK.out _ _ ⟨(blk_cell BK112.out 0).trans rfl, (blk_cell BK112.out 1).trans rfl, (blk_cell BK112.out 2).trans rfl, (blk_cell BK112.out 3).trans rfl⟩ (fun hHeld => ?_)
      clear hK K
      refine norm_ (a' := ?_) ?_ ?_
      rotate_left
      ·show Act.put _ (some 9) _ = _
       simp only [Act.put, List.setIfInBounds_toArray, List.set_cons_zero, List.set_cons_succ, i64_w, i32_w]
       rfl
      refine zP 7 (some 10) (bz 40 255) HT_ ?_
      refine zP 8 (some 11) (bz 40 511) HT_ ?_
      refine zP 9 (some 12) (bz 40 1023) HT_ ?_
      refine zT 10 (some 13) (bz 40 2047) HT_ HW_ hHeld (v := ?_) ?_ ?_
      rotate_left
      ·rintro w' ⟨s0, s1, s2, s3⟩; go_simp; with_reducible rfl
      refine one_ (i := 11) (N := some 14) (bz 40 4095) rfl rfl (one_of HT_.out (by kernel_rfl)) (by decide) (fun K hK => ?_)
      refine goes_ Tryd.func58 (by kernel_rfl) rfl #[.slice A0_3 l0_3.length c0_3] (by rfl) rfl rfl (by (try simp only [List.map_toArray, List.map_cons, List.map_nil]); first | done | rfl | (simp only [List.length_drop, List.length_take]; rfl)) ?_
      with_reducible refine (heard_ValidVerdicts.calls k _ _ l0_3 true _ ?side1 ?side2 A6.out).mono ?_
      (case side1 => exact zC (Kd.C_below HR0_3.out HB.out))
      (case side2 => exact HC0_3.out)
      rintro e w15 ⟨rfl, hb⟩
      refine ⟨_, rfl, ?_⟩
      have n0_ := Aside0.mk (blk_below (g := gb112) (o := .cells #[.slice A0_0 l0_0.length c0_0, .int .i64 a0_1, .slice A0_2 l0_2.length c0_2, .slice A0_3 l0_3.length c0_3] 103 (0, 0)) (zB BK112.out) hb)
      have n1_ := Aside0.mk (below_step (zX HB.out GE112.out) hb)
      clear BK112
      clear HB
      have BK112 := n0_
      have HB := n1_
      clear n0_ n1_
      (try clear hb)
      (try clear hb2)
      (try clear hk)
      (try clear hi)
      refine hK.out _ _ ⟨(blk_cell BK112.out 0).trans rfl, (blk_cell BK112.out 1).trans rfl, (blk_cell BK112.out 2).trans rfl, (blk_cell BK112.out 3).trans rfl⟩ (fun hHeld => ?_)
      clear hK K
      refine norm_ (a' := ?_) ?_ ?_
      rotate_left
      ·show Act.put _ (some 14) _ = _
       simp only [Act.put, List.setIfInBounds_toArray, List.set_cons_zero, List.set_cons_succ, i64_w, i32_w]
       rfl
      refine zP 12 (some 15) (bz 40 8191) HT_ ?_
      refine zP 13 (some 16) (bz 40 16383) HT_ ?_
      refine zP 14 (some 17) (bz 40 32767) HT_ ?_
      refine zP 17 (some 20) (bz 40 163839) HT_ ?_
      refine zT 15 (some 18) (bz 40 196607) HT_ HW_ hHeld (v := ?_) ?_ ?_
      rotate_left
      ·rintro w' ⟨s0, s1, s2, s3⟩; go_simp; with_reducible rfl
      refine zP 16 (some 19) (bz 40 262143) HT_ ?_
      refine zT 18 (some 21) (bz 40 524287) HT_ HW_ hHeld (v := ?_) ?_ ?_
      rotate_left
      ·rintro w' ⟨s0, s1, s2, s3⟩; go_simp; with_reducible rfl
      refine zP 19 (some 22) (bz 40 1048575) HT_ ?_
      refine zP 20 (some 23) (bz 40 2097151) HT_ ?_
      refine zP 21 (some 24) (bz 40 4194303) HT_ ?_
      refine zP 22 (some 25) (bz 40 8388607) HT_ ?_
      refine zP 23 (some 26) (bz 40 16777215) HT_ ?_
      refine zT 24 (some 27) (bz 40 33554431) HT_ HW_ hHeld (v := ?_) ?_ ?_
      rotate_left
      ·rintro w' ⟨s0, s1, s2, s3⟩; go_simp; with_reducible rfl
      refine zP 25 (some 28) (bz 40 67108863) HT_ ?_
      refine zP 26 (some 29) (bz 40 134217727) HT_ ?_
      refine zP 27 (some 30) (bz 40 268435455) HT_ ?_
      refine zP 28 (some 31) (bz 40 536870911) HT_ ?_
      refine zP 30 (some 33) (bz 40 1610612735) HT_ ?_
      refine zP 33 (some 36) (bz 40 10200547327) HT_ ?_
      refine zT 29 (some 32) (bz 40 10737418239) HT_ HW_ hHeld (v := ?_) ?_ ?_
      rotate_left
      ·rintro w' ⟨s0, s1, s2, s3⟩; go_simp; with_reducible rfl
      refine zT 31 (some 34) (bz 40 12884901887) HT_ HW_ hHeld (v := ?_) ?_ ?_
      rotate_left
      ·rintro w' ⟨s0, s1, s2, s3⟩; go_simp; with_reducible rfl
      refine zT 34 (some 37) (bz 40 30064771071) HT_ HW_ hHeld (v := ?_) ?_ ?_
      rotate_left
      ·rintro w' ⟨s0, s1, s2, s3⟩; go_simp; with_reducible rfl
      refine zP 35 (some 38) (bz 40 64424509439) HT_ ?_
      refine one_ (i := 32) (N := some 35) (bz 40 68719476735) rfl rfl (one_of HT_.out (by kernel_rfl)) (by decide) (fun K hK => ?_)
      refine goes_ Tryd.func41 (by kernel_rfl) rfl #[.slice A0_0 l0_0.length c0_0] (by rfl) rfl rfl (by (try simp only [List.map_toArray, List.map_cons, List.map_nil]); first | done | rfl | (simp only [List.length_drop, List.length_take]; rfl)) ?_
      with_reducible refine (timeline_End.calls k _ _ l0_0 t116 _ ?side1 ?side2 A10.out).mono ?_
      (case side1 => exact zC (Kd.C_below HR0_0.out HB.out))
      (case side2 => exact HC0_0.out)
      rintro e w16 ⟨rfl, hb⟩
      refine ⟨_, rfl, ?_⟩
      have n0_ := Aside0.mk (blk_below (g := gb112) (o := .cells #[.slice A0_0 l0_0.length c0_0, .int .i64 a0_1, .slice A0_2 l0_2.length c0_2, .slice A0_3 l0_3.length c0_3] 103 (0, 0)) (zB BK112.out) hb)
      have n1_ := Aside0.mk (below_step (zX HB.out GE112.out) hb)
      clear BK112
      clear HB
      have BK112 := n0_
      have HB := n1_
      clear n0_ n1_
      (try clear hb)
      (try clear hb2)
      (try clear hk)
      (try clear hi)
      refine hK.out _ _ ⟨(blk_cell BK112.out 0).trans rfl, (blk_cell BK112.out 1).trans rfl, (blk_cell BK112.out 2).trans rfl, (blk_cell BK112.out 3).trans rfl⟩ (fun hHeld => ?_)
      clear hK K
      refine norm_ (a' := ?_) ?_ ?_
      rotate_left
      ·show Act.put _ (some 35) _ = _
       simp only [Act.put, List.setIfInBounds_toArray, List.set_cons_zero, List.set_cons_succ, i64_w, i32_w]
       rfl
      refine zP 36 (some 39) (bz 40 137438953471) HT_ ?_
      refine zP 37 (some 40) (bz 40 274877906943) HT_ ?_
      refine zP 38 (some 41) (bz 40 549755813887) HT_ ?_
      refine zP 39 (some 2) (bz 40 1099511627775) HT_ ?_
      refine done_ (done_of HT_.out (by kernel_rfl)) ?_
      try go_wp2
      go_ret
      exact ⟨by first | rfl | (simp [errW_none, errW_some] <;> rfl) | (simp [*, errW_none, errW_some] <;> rfl), zX HB.out GE112.out⟩
     ·rw [if_neg c9] at H
      have c9b0 : decide (0 ≤ a0_1) = false := decide_eq_false c9
      clear c9
      obtain rfl := Option.some.inj H
      go_enter Tryd.func51, Tryd.ntmps51
      try go_wp2_with (first | ((with_reducible refine gate_dst (N := 1) rfl ?_); (try (refine gate_guard (by rfl) ?_; dsimp only)); refine box_event ?hg (N := 1) ?hd (cs := #[.slice A0_0 l0_0.length c0_0, .int .i64 a0_1, .slice A0_2 l0_2.length c0_2, .slice A0_3 l0_3.length c0_3]) (t := 103) ?hr ?_; (case hd => rfl); (case hg => rfl); (case hr => first | (go_simp; done) | (go_simp; rfl)); intro gb112 hg w17 hbox hb; have n0_ := Aside0.mk (below_step (zW HB.out) hb); have n1_ := Aside0.mk (hbox); have n2_ := Aside0.mk ((by rw [hg]; exact (below_size (zW HB.out)) : w.heap.size ≤ gb112)); have n3_ := Aside0.mk ((by rw [hg]; exact (below_size (zW HB.out)) : w.heap.size ≤ gb112)); clear HB; have HB := n0_; have BK112 := n1_; have GW112 := n2_; have GE112 := n3_; clear n0_ n1_ n2_ n3_; clear hb hbox hg))
      have n0_ := Aside0.mk (blk_drew BK112.out)
      have n1_ := Aside0.mk (below_drew1 HB.out)
      clear BK112
      clear HB
      have BK112 := n0_
      have HB := n1_
      clear n0_ n1_
      refine start_ (n := 40) (S := fun w' => w'.cell? ⟨gb112, 0, none⟩ = some (.slice A0_0 l0_0.length c0_0) ∧ w'.cell? ⟨gb112, 1, none⟩ = some (.int .i64 a0_1) ∧ w'.cell? ⟨gb112, 2, none⟩ = some (.slice A0_2 l0_2.length c0_2) ∧ w'.cell? ⟨gb112, 3, none⟩ = some (.slice A0_3 l0_3.length c0_3)) (ds := []) (bz 40 0) (by kernel_rfl) rfl rfl ⟨(blk_cell BK112.out 0).trans rfl, (blk_cell BK112.out 1).trans rfl, (blk_cell BK112.out 2).trans rfl, (blk_cell BK112.out 3).trans rfl⟩ (fun hHeld => ?_); refine with_tabW judge_evidence_valid.tab1 judge_evidence_valid.bits1 (fun HT_ HW_ => ?_)
      generalize w17.drew = w18 at BK112 HB hHeld ⊢
      refine zP 0 (some 3) (bz 40 1) HT_ ?_
      refine zT 1 (some 4) (bz 40 3) HT_ HW_ hHeld (v := ?_) ?_ ?_
      rotate_left
      ·rintro w' ⟨s0, s1, s2, s3⟩; go_simp; with_reducible rfl
      refine one_ (i := 2) (N := some 5) (bz 40 7) rfl rfl (one_of HT_.out (by kernel_rfl)) (by decide) (fun K hK => ?_)
      refine goes_ Tryd.func55 (by kernel_rfl) rfl #[.slice A0_0 l0_0.length c0_0] (by rfl) rfl rfl (by (try simp only [List.map_toArray, List.map_cons, List.map_nil]); first | done | rfl | (simp only [List.length_drop, List.length_take]; rfl)) ?_
      with_reducible refine (timeline_Valid.calls k _ _ l0_0 true _ ?side1 ?side2 A2.out).mono ?_
      (case side1 => exact zC (Kd.C_below HR0_0.out HB.out))
      (case side2 => exact HC0_0.out)
      rintro e w19 ⟨rfl, hb⟩
      refine ⟨_, rfl, ?_⟩
      have n0_ := Aside0.mk (blk_below (g := gb112) (o := .cells #[.slice A0_0 l0_0.length c0_0, .int .i64 a0_1, .slice A0_2 l0_2.length c0_2, .slice A0_3 l0_3.length c0_3] 103 (0, 0)) (zB BK112.out) hb)
      have n1_ := Aside0.mk (below_step (zX HB.out GE112.out) hb)
      clear BK112
      clear HB
      have BK112 := n0_
      have HB := n1_
      clear n0_ n1_
      (try clear hb)
      (try clear hb2)
      (try clear hk)
      (try clear hi)
      refine hK.out _ _ ⟨(blk_cell BK112.out 0).trans rfl, (blk_cell BK112.out 1).trans rfl, (blk_cell BK112.out 2).trans rfl, (blk_cell BK112.out 3).trans rfl⟩ (fun hHeld => ?_)
      clear hK K
      refine norm_ (a' := ?_) ?_ ?_
      rotate_left
      ·show Act.put _ (some 5) _ = _
       simp only [Act.put, List.setIfInBounds_toArray, List.set_cons_zero, List.set_cons_succ, i64_w, i32_w]
       rfl
      refine zP 3 (some 6) (bz 40 15) HT_ ?_
      refine zP 4 (some 7) (bz 40 31) HT_ ?_
      refine zT 5 (some 8) (bz 40 63) HT_ HW_ hHeld (v := ?_) ?_ ?_
      rotate_left
      ·rintro w' ⟨s0, s1, s2, s3⟩; go_simp; with_reducible rfl
      refine one_ (i := 6) (N := some 9) (bz 40 127) rfl rfl (one_of HT_.out (by kernel_rfl)) (by decide) (fun K hK => ?_)
      refine goes_ Tryd.func58 (by kernel_rfl) rfl #[.slice A0_2 l0_2.length c0_2] (by rfl) rfl rfl (by (try simp only [List.map_toArray, List.map_cons, List.map_nil]); first | done | rfl | (simp only [List.length_drop, List.length_take]; rfl)) ?_
      with_reducible refine (heard_ValidVerdicts.calls k _ _ l0_2 true _ ?side1 ?side2 A4.out).mono ?_
      (case side1 => exact zC (Kd.C_below HR0_2.out HB.out))
      (case side2 => exact HC0_2.out)
      rintro e w20 ⟨rfl, hb⟩
      refine ⟨_, rfl, ?_⟩
      have n0_ := Aside0.mk (blk_below (g := gb112) (o := .cells #[.slice A0_0 l0_0.length c0_0, .int .i64 a0_1, .slice A0_2 l0_2.length c0_2, .slice A0_3 l0_3.length c0_3] 103 (0, 0)) (zB BK112.out) hb)
      have n1_ := Aside0.mk (below_step (zX HB.out GE112.out) hb)
      clear BK112
      clear HB
      have BK112 := n0_
      have HB := n1_
      clear n0_ n1_
      (try clear hb)
      (try clear hb2)
      (try clear hk)
      (try clear hi)
      refine hK.out _ _ ⟨(blk_cell BK112.out 0).trans rfl, (blk_cell BK112.out 1).trans rfl, (blk_cell BK112.out 2).trans rfl, (blk_cell BK112.out 3).trans rfl⟩ (fun hHeld => ?_)
      clear hK K
      refine norm_ (a' := ?_) ?_ ?_
      rotate_left
      ·show Act.put _ (some 9) _ = _
       simp only [Act.put, List.setIfInBounds_toArray, List.set_cons_zero, List.set_cons_succ, i64_w, i32_w]
       rfl
      refine zP 7 (some 10) (bz 40 255) HT_ ?_
      refine zP 8 (some 11) (bz 40 511) HT_ ?_
      refine zP 9 (some 12) (bz 40 1023) HT_ ?_
      refine zT 10 (some 13) (bz 40 2047) HT_ HW_ hHeld (v := ?_) ?_ ?_
      rotate_left
      ·rintro w' ⟨s0, s1, s2, s3⟩; go_simp; with_reducible rfl
      refine one_ (i := 11) (N := some 14) (bz 40 4095) rfl rfl (one_of HT_.out (by kernel_rfl)) (by decide) (fun K hK => ?_)
      refine goes_ Tryd.func58 (by kernel_rfl) rfl #[.slice A0_3 l0_3.length c0_3] (by rfl) rfl rfl (by (try simp only [List.map_toArray, List.map_cons, List.map_nil]); first | done | rfl | (simp only [List.length_drop, List.length_take]; rfl)) ?_
      with_reducible refine (heard_ValidVerdicts.calls k _ _ l0_3 true _ ?side1 ?side2 A6.out).mono ?_
      (case side1 => exact zC (Kd.C_below HR0_3.out HB.out))
      (case side2 => exact HC0_3.out)
      rintro e w21 ⟨rfl, hb⟩
      refine ⟨_, rfl, ?_⟩
      have n0_ := Aside0.mk (blk_below (g := gb112) (o := .cells #[.slice A0_0 l0_0.length c0_0, .int .i64 a0_1, .slice A0_2 l0_2.length c0_2, .slice A0_3 l0_3.length c0_3] 103 (0, 0)) (zB BK112.out) hb)
      have n1_ := Aside0.mk (below_step (zX HB.out GE112.out) hb)
      clear BK112
      clear HB
      have BK112 := n0_
      have HB := n1_
      clear n0_ n1_
      (try clear hb)
      (try clear hb2)
      (try clear hk)
      (try clear hi)
      refine hK.out _ _ ⟨(blk_cell BK112.out 0).trans rfl, (blk_cell BK112.out 1).trans rfl, (blk_cell BK112.out 2).trans rfl, (blk_cell BK112.out 3).trans rfl⟩ (fun hHeld => ?_)
      clear hK K
      refine norm_ (a' := ?_) ?_ ?_
      rotate_left
      ·show Act.put _ (some 14) _ = _
       simp only [Act.put, List.setIfInBounds_toArray, List.set_cons_zero, List.set_cons_succ, i64_w, i32_w]
       rfl
      refine zP 12 (some 15) (bz 40 8191) HT_ ?_
      refine zP 13 (some 16) (bz 40 16383) HT_ ?_
      refine zP 14 (some 17) (bz 40 32767) HT_ ?_
      refine zP 17 (some 20) (bz 40 163839) HT_ ?_
      refine zT 15 (some 18) (bz 40 196607) HT_ HW_ hHeld (v := ?_) ?_ ?_
      rotate_left
      ·rintro w' ⟨s0, s1, s2, s3⟩; go_simp; with_reducible rfl
      refine zP 16 (some 19) (bz 40 262143) HT_ ?_
      refine zT 18 (some 21) (bz 40 524287) HT_ HW_ hHeld (v := ?_) ?_ ?_
      rotate_left
      ·rintro w' ⟨s0, s1, s2, s3⟩; go_simp; with_reducible rfl
      refine zP 19 (some 22) (bz 40 1048575) HT_ ?_
      refine zP 20 (some 23) (bz 40 2097151) HT_ ?_
      refine zP 21 (some 24) (bz 40 4194303) HT_ ?_
      refine zP 22 (some 25) (bz 40 8388607) HT_ ?_
      refine zP 23 (some 26) (bz 40 16777215) HT_ ?_
      refine zT 24 (some 27) (bz 40 33554431) HT_ HW_ hHeld (v := ?_) ?_ ?_
      rotate_left
      ·rintro w' ⟨s0, s1, s2, s3⟩; go_simp; with_reducible rfl
      refine zP 25 (some 28) (bz 40 67108863) HT_ ?_
      refine zP 26 (some 29) (bz 40 134217727) HT_ ?_
      refine zP 27 (some 30) (bz 40 268435455) HT_ ?_
      refine zU 28 (some 31) (bz 40 536870911) HT_ ?_
      refine zU 29 (some 32) (bz 40 1073741823) HT_ ?_
      refine zU 30 (some 33) (bz 40 2147483647) HT_ ?_
      refine zU 31 (some 34) (bz 40 4294967295) HT_ ?_
      refine zU 32 (some 35) (bz 40 8589934591) HT_ ?_
      refine zU 33 (some 36) (bz 40 17179869183) HT_ ?_
      refine zU 34 (some 37) (bz 40 34359738367) HT_ ?_
      refine zU 35 (some 38) (bz 40 68719476735) HT_ ?_
      refine zU 36 (some 39) (bz 40 137438953471) HT_ ?_
      refine zU 37 (some 40) (bz 40 274877906943) HT_ ?_
      refine zP 38 (some 41) (bz 40 549755813887) HT_ ?_
      refine zP 39 (some 2) (bz 40 1099511627775) HT_ ?_
      refine done_ (done_of HT_.out (by kernel_rfl)) ?_
      try go_wp2
      go_ret
      exact ⟨by first | rfl | (simp [errW_none, errW_some] <;> rfl) | (simp [*, errW_none, errW_some] <;> rfl), zX HB.out GE112.out⟩
    ·rw [if_neg c8] at H
     have c8b0 : ((l0_2.length : Int) == (l0_3.length : Int)) = false := beq_eq_false_iff_ne.mpr c8
     have c8b1 : ((l0_2.length : Int) != (l0_3.length : Int)) = true := bne_iff_ne.mpr c8
     have c8b2 : (l0_2.length == l0_3.length) = false := by first | simpa using c8 | (simp at c8 ⊢; omega)
     obtain rfl := Option.some.inj H
     go_enter Tryd.func51, Tryd.ntmps51
     try go_wp2_with (first | ((with_reducible refine gate_dst (N := 1) rfl ?_); (try (refine gate_guard (by rfl) ?_; dsimp only)); refine box_event ?hg (N := 1) ?hd (cs := #[.slice A0_0 l0_0.length c0_0, .int .i64 a0_1, .slice A0_2 l0_2.length c0_2, .slice A0_3 l0_3.length c0_3]) (t := 103) ?hr ?_; (case hd => rfl); (case hg => rfl); (case hr => first | (go_simp; done) | (go_simp; rfl)); intro gb112 hg w22 hbox hb; have n0_ := Aside0.mk (below_step (zW HB.out) hb); have n1_ := Aside0.mk (hbox); have n2_ := Aside0.mk ((by rw [hg]; exact (below_size (zW HB.out)) : w.heap.size ≤ gb112)); have n3_ := Aside0.mk ((by rw [hg]; exact (below_size (zW HB.out)) : w.heap.size ≤ gb112)); clear HB; have HB := n0_; have BK112 := n1_; have GW112 := n2_; have GE112 := n3_; clear n0_ n1_ n2_ n3_; clear hb hbox hg))
     have n0_ := Aside0.mk (blk_drew BK112.out)
     have n1_ := Aside0.mk (below_drew1 HB.out)
     clear BK112
     clear HB
     have BK112 := n0_
     have HB := n1_
     clear n0_ n1_
     refine start_ (n := 40) (S := fun w' => w'.cell? ⟨gb112, 0, none⟩ = some (.slice A0_0 l0_0.length c0_0) ∧ w'.cell? ⟨gb112, 1, none⟩ = some (.int .i64 a0_1) ∧ w'.cell? ⟨gb112, 2, none⟩ = some (.slice A0_2 l0_2.length c0_2) ∧ w'.cell? ⟨gb112, 3, none⟩ = some (.slice A0_3 l0_3.length c0_3)) (ds := []) (bz 40 0) (by kernel_rfl) rfl rfl ⟨(blk_cell BK112.out 0).trans rfl, (blk_cell BK112.out 1).trans rfl, (blk_cell BK112.out 2).trans rfl, (blk_cell BK112.out 3).trans rfl⟩ (fun hHeld => ?_); refine with_tabW judge_evidence_valid.tab1 judge_evidence_valid.bits1 (fun HT_ HW_ => ?_)
     generalize w22.drew = w23 at BK112 HB hHeld ⊢
     refine zP 0 (some 3) (bz 40 1) HT_ ?_
     refine zT 1 (some 4) (bz 40 3) HT_ HW_ hHeld (v := ?_) ?_ ?_
     rotate_left
     ·rintro w' ⟨s0, s1, s2, s3⟩; go_simp; with_reducible rfl
     refine one_ (i := 2) (N := some 5) (bz 40 7) rfl rfl (one_of HT_.out (by kernel_rfl)) (by decide) (fun K hK => ?_)
     refine goes_ Tryd.func55 (by kernel_rfl) rfl #[.slice A0_0 l0_0.length c0_0] (by rfl) rfl rfl (by (try simp only [List.map_toArray, List.map_cons, List.map_nil]); first | done | rfl | (simp only [List.length_drop, List.length_take]; rfl)) ?_
     with_reducible refine (timeline_Valid.calls k _ _ l0_0 true _ ?side1 ?side2 A2.out).mono ?_
     (case side1 => exact zC (Kd.C_below HR0_0.out HB.out))
     (case side2 => exact HC0_0.out)
     rintro e w24 ⟨rfl, hb⟩
     refine ⟨_, rfl, ?_⟩
     have n0_ := Aside0.mk (blk_below (g := gb112) (o := .cells #[.slice A0_0 l0_0.length c0_0, .int .i64 a0_1, .slice A0_2 l0_2.length c0_2, .slice A0_3 l0_3.length c0_3] 103 (0, 0)) (zB BK112.out) hb)
     have n1_ := Aside0.mk (below_step (zX HB.out GE112.out) hb)
     clear BK112
     clear HB
     have BK112 := n0_
     have HB := n1_
     clear n0_ n1_
     (try clear hb)
     (try clear hb2)
     (try clear hk)
     (try clear hi)
     refine hK.out _ _ ⟨(blk_cell BK112.out 0).trans rfl, (blk_cell BK112.out 1).trans rfl, (blk_cell BK112.out 2).trans rfl, (blk_cell BK112.out 3).trans rfl⟩ (fun hHeld => ?_)
     clear hK K
     refine norm_ (a' := ?_) ?_ ?_
     rotate_left
     ·show Act.put _ (some 5) _ = _
      simp only [Act.put, List.setIfInBounds_toArray, List.set_cons_zero, List.set_cons_succ, i64_w, i32_w]
      rfl
     refine zP 3 (some 6) (bz 40 15) HT_ ?_
     refine zP 4 (some 7) (bz 40 31) HT_ ?_
     refine zT 5 (some 8) (bz 40 63) HT_ HW_ hHeld (v := ?_) ?_ ?_
     rotate_left
     ·rintro w' ⟨s0, s1, s2, s3⟩; go_simp; with_reducible rfl
     refine one_ (i := 6) (N := some 9) (bz 40 127) rfl rfl (one_of HT_.out (by kernel_rfl)) (by decide) (fun K hK => ?_)
     refine goes_ Tryd.func58 (by kernel_rfl) rfl #[.slice A0_2 l0_2.length c0_2] (by rfl) rfl rfl (by (try simp only [List.map_toArray, List.map_cons, List.map_nil]); first | done | rfl | (simp only [List.length_drop, List.length_take]; rfl)) ?_
     with_reducible refine (heard_ValidVerdicts.calls k _ _ l0_2 true _ ?side1 ?side2 A4.out).mono ?_
     (case side1 => exact zC (Kd.C_below HR0_2.out HB.out))
     (case side2 => exact HC0_2.out)
     rintro e w25 ⟨rfl, hb⟩
     refine ⟨_, rfl, ?_⟩
     have n0_ := Aside0.mk (blk_below (g := gb112) (o := .cells #[.slice A0_0 l0_0.length c0_0, .int .i64 a0_1, .slice A0_2 l0_2.length c0_2, .slice A0_3 l0_3.length c0_3] 103 (0, 0)) (zB BK112.out) hb)
     have n1_ := Aside0.mk (below_step (zX HB.out GE112.out) hb)
     clear BK112
     clear HB
     have BK112 := n0_
     have HB := n1_
     clear n0_ n1_
     (try clear hb)
     (try clear hb2)
     (try clear hk)
     (try clear hi)
     refine hK.out _ _ ⟨(blk_cell BK112.out 0).trans rfl, (blk_cell BK112.out 1).trans rfl, (blk_cell BK112.out 2).trans rfl, (blk_cell BK112.out 3).trans rfl⟩ (fun hHeld => ?_)
     clear hK K
     refine norm_ (a' := ?_) ?_ ?_
     rotate_left
     ·show Act.put _ (some 9) _ = _
      simp only [Act.put, List.setIfInBounds_toArray, List.set_cons_zero, List.set_cons_succ, i64_w, i32_w]
      rfl
     refine zP 7 (some 10) (bz 40 255) HT_ ?_
     refine zP 8 (some 11) (bz 40 511) HT_ ?_
     refine zP 9 (some 12) (bz 40 1023) HT_ ?_
     refine zT 10 (some 13) (bz 40 2047) HT_ HW_ hHeld (v := ?_) ?_ ?_
     rotate_left
     ·rintro w' ⟨s0, s1, s2, s3⟩; go_simp; with_reducible rfl
     refine one_ (i := 11) (N := some 14) (bz 40 4095) rfl rfl (one_of HT_.out (by kernel_rfl)) (by decide) (fun K hK => ?_)
     refine goes_ Tryd.func58 (by kernel_rfl) rfl #[.slice A0_3 l0_3.length c0_3] (by rfl) rfl rfl (by (try simp only [List.map_toArray, List.map_cons, List.map_nil]); first | done | rfl | (simp only [List.length_drop, List.length_take]; rfl)) ?_
     with_reducible refine (heard_ValidVerdicts.calls k _ _ l0_3 true _ ?side1 ?side2 A6.out).mono ?_
     (case side1 => exact zC (Kd.C_below HR0_3.out HB.out))
     (case side2 => exact HC0_3.out)
     rintro e w26 ⟨rfl, hb⟩
     refine ⟨_, rfl, ?_⟩
     have n0_ := Aside0.mk (blk_below (g := gb112) (o := .cells #[.slice A0_0 l0_0.length c0_0, .int .i64 a0_1, .slice A0_2 l0_2.length c0_2, .slice A0_3 l0_3.length c0_3] 103 (0, 0)) (zB BK112.out) hb)
     have n1_ := Aside0.mk (below_step (zX HB.out GE112.out) hb)
     clear BK112
     clear HB
     have BK112 := n0_
     have HB := n1_
     clear n0_ n1_
     (try clear hb)
     (try clear hb2)
     (try clear hk)
     (try clear hi)
     refine hK.out _ _ ⟨(blk_cell BK112.out 0).trans rfl, (blk_cell BK112.out 1).trans rfl, (blk_cell BK112.out 2).trans rfl, (blk_cell BK112.out 3).trans rfl⟩ (fun hHeld => ?_)
     clear hK K
     refine norm_ (a' := ?_) ?_ ?_
     rotate_left
     ·show Act.put _ (some 14) _ = _
      simp only [Act.put, List.setIfInBounds_toArray, List.set_cons_zero, List.set_cons_succ, i64_w, i32_w]
      rfl
     refine zP 12 (some 15) (bz 40 8191) HT_ ?_
     refine zP 13 (some 16) (bz 40 16383) HT_ ?_
     refine zP 14 (some 17) (bz 40 32767) HT_ ?_
     refine zP 17 (some 20) (bz 40 163839) HT_ ?_
     refine zT 15 (some 18) (bz 40 196607) HT_ HW_ hHeld (v := ?_) ?_ ?_
     rotate_left
     ·rintro w' ⟨s0, s1, s2, s3⟩; go_simp; with_reducible rfl
     refine zP 16 (some 19) (bz 40 262143) HT_ ?_
     refine zT 18 (some 21) (bz 40 524287) HT_ HW_ hHeld (v := ?_) ?_ ?_
     rotate_left
     ·rintro w' ⟨s0, s1, s2, s3⟩; go_simp; with_reducible rfl
     refine zP 19 (some 22) (bz 40 1048575) HT_ ?_
     refine zP 20 (some 23) (bz 40 2097151) HT_ ?_
     refine zP 21 (some 24) (bz 40 4194303) HT_ ?_
     refine zP 22 (some 25) (bz 40 8388607) HT_ ?_
     refine zU 23 (some 26) (bz 40 16777215) HT_ ?_
     refine zU 24 (some 27) (bz 40 33554431) HT_ ?_
     refine zU 25 (some 28) (bz 40 67108863) HT_ ?_
     refine zP 26 (some 29) (bz 40 134217727) HT_ ?_
     refine zP 27 (some 30) (bz 40 268435455) HT_ ?_
     refine zU 28 (some 31) (bz 40 536870911) HT_ ?_
     refine zU 29 (some 32) (bz 40 1073741823) HT_ ?_
     refine zU 30 (some 33) (bz 40 2147483647) HT_ ?_
     refine zU 31 (some 34) (bz 40 4294967295) HT_ ?_
     refine zU 32 (some 35) (bz 40 8589934591) HT_ ?_
     refine zU 33 (some 36) (bz 40 17179869183) HT_ ?_
     refine zU 34 (some 37) (bz 40 34359738367) HT_ ?_
     refine zU 35 (some 38) (bz 40 68719476735) HT_ ?_
     refine zU 36 (some 39) (bz 40 137438953471) HT_ ?_
     refine zU 37 (some 40) (bz 40 274877906943) HT_ ?_
     refine zP 38 (some 41) (bz 40 549755813887) HT_ ?_
     refine zP 39 (some 2) (bz 40 1099511627775) HT_ ?_
     refine done_ (done_of HT_.out (by kernel_rfl)) ?_
     try go_wp2
     go_ret
     exact ⟨by first | rfl | (simp [errW_none, errW_some] <;> rfl) | (simp [*, errW_none, errW_some] <;> rfl), zX HB.out GE112.out⟩
   ·replace c7 := Bool.eq_false_iff.mpr c7
    subst c7
    rw [if_neg (show ¬ (false = true) by decide)] at H
    obtain rfl := Option.some.inj H
    go_enter Tryd.func51, Tryd.ntmps51
    try go_wp2_with (first | ((with_reducible refine gate_dst (N := 1) rfl ?_); (try (refine gate_guard (by rfl) ?_; dsimp only)); refine box_event ?hg (N := 1) ?hd (cs := #[.slice A0_0 l0_0.length c0_0, .int .i64 a0_1, .slice A0_2 l0_2.length c0_2, .slice A0_3 l0_3.length c0_3]) (t := 103) ?hr ?_; (case hd => rfl); (case hg => rfl); (case hr => first | (go_simp; done) | (go_simp; rfl)); intro gb112 hg w27 hbox hb; have n0_ := Aside0.mk (below_step (zW HB.out) hb); have n1_ := Aside0.mk (hbox); have n2_ := Aside0.mk ((by rw [hg]; exact (below_size (zW HB.out)) : w.heap.size ≤ gb112)); have n3_ := Aside0.mk ((by rw [hg]; exact (below_size (zW HB.out)) : w.heap.size ≤ gb112)); clear HB; have HB := n0_; have BK112 := n1_; have GW112 := n2_; have GE112 := n3_; clear n0_ n1_ n2_ n3_; clear hb hbox hg))
    have n0_ := Aside0.mk (blk_drew BK112.out)
    have n1_ := Aside0.mk (below_drew1 HB.out)
    clear BK112
    clear HB
    have BK112 := n0_
    have HB := n1_
    clear n0_ n1_
    refine start_ (n := 40) (S := fun w' => w'.cell? ⟨gb112, 0, none⟩ = some (.slice A0_0 l0_0.length c0_0) ∧ w'.cell? ⟨gb112, 1, none⟩ = some (.int .i64 a0_1) ∧ w'.cell? ⟨gb112, 2, none⟩ = some (.slice A0_2 l0_2.length c0_2) ∧ w'.cell? ⟨gb112, 3, none⟩ = some (.slice A0_3 l0_3.length c0_3)) (ds := []) (bz 40 0) (by kernel_rfl) rfl rfl ⟨(blk_cell BK112.out 0).trans rfl, (blk_cell BK112.out 1).trans rfl, (blk_cell BK112.out 2).trans rfl, (blk_cell BK112.out 3).trans rfl⟩ (fun hHeld => ?_); refine with_tabW judge_evidence_valid.tab1 judge_evidence_valid.bits1 (fun HT_ HW_ => ?_)
    generalize w27.drew = w28 at BK112 HB hHeld ⊢
    refine zP 0 (some 3) (bz 40 1) HT_ ?_
    refine zT 1 (some 4) (bz 40 3) HT_ HW_ hHeld (v := ?_) ?_ ?_
    rotate_left
    ·rintro w' ⟨s0, s1, s2, s3⟩; go_simp; with_reducible rfl
    refine one_ (i := 2) (N := some 5) (bz 40 7) rfl rfl (one_of HT_.out (by kernel_rfl)) (by decide) (fun K hK => ?_)
    refine goes_ Tryd.func55 (by kernel_rfl) rfl #[.slice A0_0 l0_0.length c0_0] (by rfl) rfl rfl (by (try simp only [List.map_toArray, List.map_cons, List.map_nil]); first | done | rfl | (simp only [List.length_drop, List.length_take]; rfl)) ?_
    with_reducible refine (timeline_Valid.calls k _ _ l0_0 true _ ?side1 ?side2 A2.out).mono ?_
    (case side1 => exact zC (Kd.C_below HR0_0.out HB.out))
    (case side2 => exact HC0_0.out)
    rintro e w29 ⟨rfl, hb⟩
    refine ⟨_, rfl, ?_⟩
    have n0_ := Aside0.mk (blk_below (g := gb112) (o := .cells #[.slice A0_0 l0_0.length c0_0, .int .i64 a0_1, .slice A0_2 l0_2.length c0_2, .slice A0_3 l0_3.length c0_3] 103 (0, 0)) (zB BK112.out) hb)
    have n1_ := Aside0.mk (below_step (zX HB.out GE112.out) hb)
    clear BK112
    clear HB
    have BK112 := n0_
    have HB := n1_
    clear n0_ n1_
    (try clear hb)
    (try clear hb2)
    (try clear hk)
    (try clear hi)
    refine hK.out _ _ ⟨(blk_cell BK112.out 0).trans rfl, (blk_cell BK112.out 1).trans rfl, (blk_cell BK112.out 2).trans rfl, (blk_cell BK112.out 3).trans rfl⟩ (fun hHeld => ?_)
    clear hK K
    refine norm_ (a' := ?_) ?_ ?_
    rotate_left
    ·show Act.put _ (some 5) _ = _
     simp only [Act.put, List.setIfInBounds_toArray, List.set_cons_zero, List.set_cons_succ, i64_w, i32_w]
     rfl
    refine zP 3 (some 6) (bz 40 15) HT_ ?_
    refine zP 4 (some 7) (bz 40 31) HT_ ?_
    refine zT 5 (some 8) (bz 40 63) HT_ HW_ hHeld (v := ?_) ?_ ?_
    rotate_left
    ·rintro w' ⟨s0, s1, s2, s3⟩; go_simp; with_reducible rfl
    refine one_ (i := 6) (N := some 9) (bz 40 127) rfl rfl (one_of HT_.out (by kernel_rfl)) (by decide) (fun K hK => ?_)
    refine goes_ Tryd.func58 (by kernel_rfl) rfl #[.slice A0_2 l0_2.length c0_2] (by rfl) rfl rfl (by (try simp only [List.map_toArray, List.map_cons, List.map_nil]); first | done | rfl | (simp only [List.length_drop, List.length_take]; rfl)) ?_
    with_reducible refine (heard_ValidVerdicts.calls k _ _ l0_2 true _ ?side1 ?side2 A4.out).mono ?_
    (case side1 => exact zC (Kd.C_below HR0_2.out HB.out))
    (case side2 => exact HC0_2.out)
    rintro e w30 ⟨rfl, hb⟩
    refine ⟨_, rfl, ?_⟩
    have n0_ := Aside0.mk (blk_below (g := gb112) (o := .cells #[.slice A0_0 l0_0.length c0_0, .int .i64 a0_1, .slice A0_2 l0_2.length c0_2, .slice A0_3 l0_3.length c0_3] 103 (0, 0)) (zB BK112.out) hb)
    have n1_ := Aside0.mk (below_step (zX HB.out GE112.out) hb)
    clear BK112
    clear HB
    have BK112 := n0_
    have HB := n1_
    clear n0_ n1_
    (try clear hb)
    (try clear hb2)
    (try clear hk)
    (try clear hi)
    refine hK.out _ _ ⟨(blk_cell BK112.out 0).trans rfl, (blk_cell BK112.out 1).trans rfl, (blk_cell BK112.out 2).trans rfl, (blk_cell BK112.out 3).trans rfl⟩ (fun hHeld => ?_)
    clear hK K
    refine norm_ (a' := ?_) ?_ ?_
    rotate_left
    ·show Act.put _ (some 9) _ = _
     simp only [Act.put, List.setIfInBounds_toArray, List.set_cons_zero, List.set_cons_succ, i64_w, i32_w]
     rfl
    refine zP 7 (some 10) (bz 40 255) HT_ ?_
    refine zP 8 (some 11) (bz 40 511) HT_ ?_
    refine zP 9 (some 12) (bz 40 1023) HT_ ?_
    refine zT 10 (some 13) (bz 40 2047) HT_ HW_ hHeld (v := ?_) ?_ ?_
    rotate_left
    ·rintro w' ⟨s0, s1, s2, s3⟩; go_simp; with_reducible rfl
    refine one_ (i := 11) (N := some 14) (bz 40 4095) rfl rfl (one_of HT_.out (by kernel_rfl)) (by decide) (fun K hK => ?_)
    refine goes_ Tryd.func58 (by kernel_rfl) rfl #[.slice A0_3 l0_3.length c0_3] (by rfl) rfl rfl (by (try simp only [List.map_toArray, List.map_cons, List.map_nil]); first | done | rfl | (simp only [List.length_drop, List.length_take]; rfl)) ?_
    with_reducible refine (heard_ValidVerdicts.calls k _ _ l0_3 false _ ?side1 ?side2 A6.out).mono ?_
    (case side1 => exact zC (Kd.C_below HR0_3.out HB.out))
    (case side2 => exact HC0_3.out)
    rintro e w31 ⟨rfl, hb⟩
    refine ⟨_, rfl, ?_⟩
    have n0_ := Aside0.mk (blk_below (g := gb112) (o := .cells #[.slice A0_0 l0_0.length c0_0, .int .i64 a0_1, .slice A0_2 l0_2.length c0_2, .slice A0_3 l0_3.length c0_3] 103 (0, 0)) (zB BK112.out) hb)
    have n1_ := Aside0.mk (below_step (zX HB.out GE112.out) hb)
    clear BK112
    clear HB
    have BK112 := n0_
    have HB := n1_
    clear n0_ n1_
    (try clear hb)
    (try clear hb2)
    (try clear hk)
    (try clear hi)
    refine hK.out _ _ ⟨(blk_cell BK112.out 0).trans rfl, (blk_cell BK112.out 1).trans rfl, (blk_cell BK112.out 2).trans rfl, (blk_cell BK112.out 3).trans rfl⟩ (fun hHeld => ?_)
    clear hK K
    refine norm_ (a' := ?_) ?_ ?_
    rotate_left
    ·show Act.put _ (some 14) _ = _
     simp only [Act.put, List.setIfInBounds_toArray, List.set_cons_zero, List.set_cons_succ, i64_w, i32_w]
     rfl
    refine zP 12 (some 15) (bz 40 8191) HT_ ?_
    refine zP 13 (some 16) (bz 40 16383) HT_ ?_
    refine zU 14 (some 17) (bz 40 32767) HT_ ?_
    refine zU 15 (some 18) (bz 40 65535) HT_ ?_
    refine zU 16 (some 19) (bz 40 131071) HT_ ?_
    refine zU 17 (some 20) (bz 40 262143) HT_ ?_
    refine zU 18 (some 21) (bz 40 524287) HT_ ?_
    refine zU 19 (some 22) (bz 40 1048575) HT_ ?_
    refine zU 20 (some 23) (bz 40 2097151) HT_ ?_
    refine zP 21 (some 24) (bz 40 4194303) HT_ ?_
    refine zP 22 (some 25) (bz 40 8388607) HT_ ?_
    refine zU 23 (some 26) (bz 40 16777215) HT_ ?_
    refine zU 24 (some 27) (bz 40 33554431) HT_ ?_
    refine zU 25 (some 28) (bz 40 67108863) HT_ ?_
    refine zP 26 (some 29) (bz 40 134217727) HT_ ?_
    refine zP 27 (some 30) (bz 40 268435455) HT_ ?_
    refine zU 28 (some 31) (bz 40 536870911) HT_ ?_
    refine zU 29 (some 32) (bz 40 1073741823) HT_ ?_
    refine zU 30 (some 33) (bz 40 2147483647) HT_ ?_
    refine zU 31 (some 34) (bz 40 4294967295) HT_ ?_
    refine zU 32 (some 35) (bz 40 8589934591) HT_ ?_
    refine zU 33 (some 36) (bz 40 17179869183) HT_ ?_
    refine zU 34 (some 37) (bz 40 34359738367) HT_ ?_
    refine zU 35 (some 38) (bz 40 68719476735) HT_ ?_
    refine zU 36 (some 39) (bz 40 137438953471) HT_ ?_
    refine zU 37 (some 40) (bz 40 274877906943) HT_ ?_
    refine zP 38 (some 41) (bz 40 549755813887) HT_ ?_
    refine zP 39 (some 2) (bz 40 1099511627775) HT_ ?_
    refine done_ (done_of HT_.out (by kernel_rfl)) ?_
    try go_wp2
    go_ret
    exact ⟨by first | rfl | (simp [errW_none, errW_some] <;> rfl) | (simp [*, errW_none, errW_some] <;> rfl), zX HB.out GE112.out⟩
  ·replace c5 := Bool.eq_false_iff.mpr c5
   subst c5
   rw [if_neg (show ¬ (false = true) by decide)] at H
   obtain rfl := Option.some.inj H
   go_enter Tryd.func51, Tryd.ntmps51
   try go_wp2_with (first | ((with_reducible refine gate_dst (N := 1) rfl ?_); (try (refine gate_guard (by rfl) ?_; dsimp only)); refine box_event ?hg (N := 1) ?hd (cs := #[.slice A0_0 l0_0.length c0_0, .int .i64 a0_1, .slice A0_2 l0_2.length c0_2, .slice A0_3 l0_3.length c0_3]) (t := 103) ?hr ?_; (case hd => rfl); (case hg => rfl); (case hr => first | (go_simp; done) | (go_simp; rfl)); intro gb112 hg w32 hbox hb; have n0_ := Aside0.mk (below_step (zW HB.out) hb); have n1_ := Aside0.mk (hbox); have n2_ := Aside0.mk ((by rw [hg]; exact (below_size (zW HB.out)) : w.heap.size ≤ gb112)); have n3_ := Aside0.mk ((by rw [hg]; exact (below_size (zW HB.out)) : w.heap.size ≤ gb112)); clear HB; have HB := n0_; have BK112 := n1_; have GW112 := n2_; have GE112 := n3_; clear n0_ n1_ n2_ n3_; clear hb hbox hg))
   have n0_ := Aside0.mk (blk_drew BK112.out)
   have n1_ := Aside0.mk (below_drew1 HB.out)
   clear BK112
   clear HB
   have BK112 := n0_
   have HB := n1_
   clear n0_ n1_
   refine start_ (n := 40) (S := fun w' => w'.cell? ⟨gb112, 0, none⟩ = some (.slice A0_0 l0_0.length c0_0) ∧ w'.cell? ⟨gb112, 1, none⟩ = some (.int .i64 a0_1) ∧ w'.cell? ⟨gb112, 2, none⟩ = some (.slice A0_2 l0_2.length c0_2) ∧ w'.cell? ⟨gb112, 3, none⟩ = some (.slice A0_3 l0_3.length c0_3)) (ds := []) (bz 40 0) (by kernel_rfl) rfl rfl ⟨(blk_cell BK112.out 0).trans rfl, (blk_cell BK112.out 1).trans rfl, (blk_cell BK112.out 2).trans rfl, (blk_cell BK112.out 3).trans rfl⟩ (fun hHeld => ?_); refine with_tabW judge_evidence_valid.tab1 judge_evidence_valid.bits1 (fun HT_ HW_ => ?_)
   generalize w32.drew = w33 at BK112 HB hHeld ⊢
   refine zP 0 (some 3) (bz 40 1) HT_ ?_
   refine zT 1 (some 4) (bz 40 3) HT_ HW_ hHeld (v := ?_) ?_ ?_
   rotate_left
   ·rintro w' ⟨s0, s1, s2, s3⟩; go_simp; with_reducible rfl
   refine one_ (i := 2) (N := some 5) (bz 40 7) rfl rfl (one_of HT_.out (by kernel_rfl)) (by decide) (fun K hK => ?_)
   refine goes_ Tryd.func55 (by kernel_rfl) rfl #[.slice A0_0 l0_0.length c0_0] (by rfl) rfl rfl (by (try simp only [List.map_toArray, List.map_cons, List.map_nil]); first | done | rfl | (simp only [List.length_drop, List.length_take]; rfl)) ?_
   with_reducible refine (timeline_Valid.calls k _ _ l0_0 true _ ?side1 ?side2 A2.out).mono ?_
   (case side1 => exact zC (Kd.C_below HR0_0.out HB.out))
   (case side2 => exact HC0_0.out)
   rintro e w34 ⟨rfl, hb⟩
   refine ⟨_, rfl, ?_⟩
   have n0_ := Aside0.mk (blk_below (g := gb112) (o := .cells #[.slice A0_0 l0_0.length c0_0, .int .i64 a0_1, .slice A0_2 l0_2.length c0_2, .slice A0_3 l0_3.length c0_3] 103 (0, 0)) (zB BK112.out) hb)
   have n1_ := Aside0.mk (below_step (zX HB.out GE112.out) hb)
   clear BK112
   clear HB
   have BK112 := n0_
   have HB := n1_
   clear n0_ n1_
   (try clear hb)
   (try clear hb2)
   (try clear hk)
   (try clear hi)
   refine hK.out _ _ ⟨(blk_cell BK112.out 0).trans rfl, (blk_cell BK112.out 1).trans rfl, (blk_cell BK112.out 2).trans rfl, (blk_cell BK112.out 3).trans rfl⟩ (fun hHeld => ?_)
   clear hK K
   refine norm_ (a' := ?_) ?_ ?_
   rotate_left
   ·show Act.put _ (some 5) _ = _
    simp only [Act.put, List.setIfInBounds_toArray, List.set_cons_zero, List.set_cons_succ, i64_w, i32_w]
    rfl
   refine zP 3 (some 6) (bz 40 15) HT_ ?_
   refine zP 4 (some 7) (bz 40 31) HT_ ?_
   refine zT 5 (some 8) (bz 40 63) HT_ HW_ hHeld (v := ?_) ?_ ?_
   rotate_left
   ·rintro w' ⟨s0, s1, s2, s3⟩; go_simp; with_reducible rfl
   refine one_ (i := 6) (N := some 9) (bz 40 127) rfl rfl (one_of HT_.out (by kernel_rfl)) (by decide) (fun K hK => ?_)
   refine goes_ Tryd.func58 (by kernel_rfl) rfl #[.slice A0_2 l0_2.length c0_2] (by rfl) rfl rfl (by (try simp only [List.map_toArray, List.map_cons, List.map_nil]); first | done | rfl | (simp only [List.length_drop, List.length_take]; rfl)) ?_
   with_reducible refine (heard_ValidVerdicts.calls k _ _ l0_2 false _ ?side1 ?side2 A4.out).mono ?_
   (case side1 => exact zC (Kd.C_below HR0_2.out HB.out))
   (case side2 => exact HC0_2.out)
   rintro e w35 ⟨rfl, hb⟩
   refine ⟨_, rfl, ?_⟩
   have n0_ := Aside0.mk (blk_below (g := gb112) (o := .cells #[.slice A0_0 l0_0.length c0_0, .int .i64 a0_1, .slice A0_2 l0_2.length c0_2, .slice A0_3 l0_3.length c0_3] 103 (0, 0)) (zB BK112.out) hb)
   have n1_ := Aside0.mk (below_step (zX HB.out GE112.out) hb)
   clear BK112
   clear HB
   have BK112 := n0_
   have HB := n1_
   clear n0_ n1_
   (try clear hb)
   (try clear hb2)
   (try clear hk)
   (try clear hi)
   refine hK.out _ _ ⟨(blk_cell BK112.out 0).trans rfl, (blk_cell BK112.out 1).trans rfl, (blk_cell BK112.out 2).trans rfl, (blk_cell BK112.out 3).trans rfl⟩ (fun hHeld => ?_)
   clear hK K
   refine norm_ (a' := ?_) ?_ ?_
   rotate_left
   ·show Act.put _ (some 9) _ = _
    simp only [Act.put, List.setIfInBounds_toArray, List.set_cons_zero, List.set_cons_succ, i64_w, i32_w]
    rfl
   refine zP 7 (some 10) (bz 40 255) HT_ ?_
   refine zP 8 (some 11) (bz 40 511) HT_ ?_
   refine zU 9 (some 12) (bz 40 1023) HT_ ?_
   refine zU 10 (some 13) (bz 40 2047) HT_ ?_
   refine zU 11 (some 14) (bz 40 4095) HT_ ?_
   refine zP 12 (some 15) (bz 40 8191) HT_ ?_
   refine zP 13 (some 16) (bz 40 16383) HT_ ?_
   refine zU 14 (some 17) (bz 40 32767) HT_ ?_
   refine zU 15 (some 18) (bz 40 65535) HT_ ?_
   refine zU 16 (some 19) (bz 40 131071) HT_ ?_
   refine zU 17 (some 20) (bz 40 262143) HT_ ?_
   refine zU 18 (some 21) (bz 40 524287) HT_ ?_
   refine zU 19 (some 22) (bz 40 1048575) HT_ ?_
   refine zU 20 (some 23) (bz 40 2097151) HT_ ?_
   refine zP 21 (some 24) (bz 40 4194303) HT_ ?_
   refine zP 22 (some 25) (bz 40 8388607) HT_ ?_
   refine zU 23 (some 26) (bz 40 16777215) HT_ ?_
   refine zU 24 (some 27) (bz 40 33554431) HT_ ?_
   refine zU 25 (some 28) (bz 40 67108863) HT_ ?_
   refine zP 26 (some 29) (bz 40 134217727) HT_ ?_
   refine zP 27 (some 30) (bz 40 268435455) HT_ ?_
   refine zU 28 (some 31) (bz 40 536870911) HT_ ?_
   refine zU 29 (some 32) (bz 40 1073741823) HT_ ?_
   refine zU 30 (some 33) (bz 40 2147483647) HT_ ?_
   refine zU 31 (some 34) (bz 40 4294967295) HT_ ?_
   refine zU 32 (some 35) (bz 40 8589934591) HT_ ?_
   refine zU 33 (some 36) (bz 40 17179869183) HT_ ?_
   refine zU 34 (some 37) (bz 40 34359738367) HT_ ?_
   refine zU 35 (some 38) (bz 40 68719476735) HT_ ?_
   refine zU 36 (some 39) (bz 40 137438953471) HT_ ?_
   refine zU 37 (some 40) (bz 40 274877906943) HT_ ?_
   refine zP 38 (some 41) (bz 40 549755813887) HT_ ?_
   refine zP 39 (some 2) (bz 40 1099511627775) HT_ ?_
   refine done_ (done_of HT_.out (by kernel_rfl)) ?_
   try go_wp2
   go_ret
   exact ⟨by first | rfl | (simp [errW_none, errW_some] <;> rfl) | (simp [*, errW_none, errW_some] <;> rfl), zX HB.out GE112.out⟩
 ·replace c3 := Bool.eq_false_iff.mpr c3
  subst c3
  rw [if_neg (show ¬ (false = true) by decide)] at H
  obtain rfl := Option.some.inj H
  go_enter Tryd.func51, Tryd.ntmps51
  try go_wp2_with (first | ((with_reducible refine gate_dst (N := 1) rfl ?_); (try (refine gate_guard (by rfl) ?_; dsimp only)); refine box_event ?hg (N := 1) ?hd (cs := #[.slice A0_0 l0_0.length c0_0, .int .i64 a0_1, .slice A0_2 l0_2.length c0_2, .slice A0_3 l0_3.length c0_3]) (t := 103) ?hr ?_; (case hd => rfl); (case hg => rfl); (case hr => first | (go_simp; done) | (go_simp; rfl)); intro gb112 hg w36 hbox hb; have n0_ := Aside0.mk (below_step (zW HB.out) hb); have n1_ := Aside0.mk (hbox); have n2_ := Aside0.mk ((by rw [hg]; exact (below_size (zW HB.out)) : w.heap.size ≤ gb112)); have n3_ := Aside0.mk ((by rw [hg]; exact (below_size (zW HB.out)) : w.heap.size ≤ gb112)); clear HB; have HB := n0_; have BK112 := n1_; have GW112 := n2_; have GE112 := n3_; clear n0_ n1_ n2_ n3_; clear hb hbox hg))
  have n0_ := Aside0.mk (blk_drew BK112.out)
  have n1_ := Aside0.mk (below_drew1 HB.out)
  clear BK112
  clear HB
  have BK112 := n0_
  have HB := n1_
  clear n0_ n1_
  refine start_ (n := 40) (S := fun w' => w'.cell? ⟨gb112, 0, none⟩ = some (.slice A0_0 l0_0.length c0_0) ∧ w'.cell? ⟨gb112, 1, none⟩ = some (.int .i64 a0_1) ∧ w'.cell? ⟨gb112, 2, none⟩ = some (.slice A0_2 l0_2.length c0_2) ∧ w'.cell? ⟨gb112, 3, none⟩ = some (.slice A0_3 l0_3.length c0_3)) (ds := []) (bz 40 0) (by kernel_rfl) rfl rfl ⟨(blk_cell BK112.out 0).trans rfl, (blk_cell BK112.out 1).trans rfl, (blk_cell BK112.out 2).trans rfl, (blk_cell BK112.out 3).trans rfl⟩ (fun hHeld => ?_); refine with_tabW judge_evidence_valid.tab1 judge_evidence_valid.bits1 (fun HT_ HW_ => ?_)
  generalize w36.drew = w37 at BK112 HB hHeld ⊢
  refine zP 0 (some 3) (bz 40 1) HT_ ?_
  refine zT 1 (some 4) (bz 40 3) HT_ HW_ hHeld (v := ?_) ?_ ?_
  rotate_left
  ·rintro w' ⟨s0, s1, s2, s3⟩; go_simp; with_reducible rfl
  refine one_ (i := 2) (N := some 5) (bz 40 7) rfl rfl (one_of HT_.out (by kernel_rfl)) (by decide) (fun K hK => ?_)
  refine goes_ Tryd.func55 (by kernel_rfl) rfl #[.slice A0_0 l0_0.length c0_0] (by rfl) rfl rfl (by (try simp only [List.map_toArray, List.map_cons, List.map_nil]); first | done | rfl | (simp only [List.length_drop, List.length_take]; rfl)) ?_
  with_reducible refine (timeline_Valid.calls k _ _ l0_0 false _ ?side1 ?side2 A2.out).mono ?_
  (case side1 => exact zC (Kd.C_below HR0_0.out HB.out))
  (case side2 => exact HC0_0.out)
  rintro e w38 ⟨rfl, hb⟩
  refine ⟨_, rfl, ?_⟩
  have n0_ := Aside0.mk (blk_below (g := gb112) (o := .cells #[.slice A0_0 l0_0.length c0_0, .int .i64 a0_1, .slice A0_2 l0_2.length c0_2, .slice A0_3 l0_3.length c0_3] 103 (0, 0)) (zB BK112.out) hb)
  have n1_ := Aside0.mk (below_step (zX HB.out GE112.out) hb)
  clear BK112
  clear HB
  have BK112 := n0_
  have HB := n1_
  clear n0_ n1_
  (try clear hb)
  (try clear hb2)
  (try clear hk)
  (try clear hi)
  refine hK.out _ _ ⟨(blk_cell BK112.out 0).trans rfl, (blk_cell BK112.out 1).trans rfl, (blk_cell BK112.out 2).trans rfl, (blk_cell BK112.out 3).trans rfl⟩ (fun hHeld => ?_)
  clear hK K
  refine norm_ (a' := ?_) ?_ ?_
  rotate_left
  ·show Act.put _ (some 5) _ = _
   simp only [Act.put, List.setIfInBounds_toArray, List.set_cons_zero, List.set_cons_succ, i64_w, i32_w]
   rfl
  refine zP 3 (some 6) (bz 40 15) HT_ ?_
  refine zU 4 (some 7) (bz 40 31) HT_ ?_
  refine zU 5 (some 8) (bz 40 63) HT_ ?_
  refine zU 6 (some 9) (bz 40 127) HT_ ?_
  refine zP 7 (some 10) (bz 40 255) HT_ ?_
  refine zP 8 (some 11) (bz 40 511) HT_ ?_
  refine zU 9 (some 12) (bz 40 1023) HT_ ?_
  refine zU 10 (some 13) (bz 40 2047) HT_ ?_
  refine zU 11 (some 14) (bz 40 4095) HT_ ?_
  refine zP 12 (some 15) (bz 40 8191) HT_ ?_
  refine zP 13 (some 16) (bz 40 16383) HT_ ?_
  refine zU 14 (some 17) (bz 40 32767) HT_ ?_
  refine zU 15 (some 18) (bz 40 65535) HT_ ?_
  refine zU 16 (some 19) (bz 40 131071) HT_ ?_
  refine zU 17 (some 20) (bz 40 262143) HT_ ?_
  refine zU 18 (some 21) (bz 40 524287) HT_ ?_
  refine zU 19 (some 22) (bz 40 1048575) HT_ ?_
  refine zU 20 (some 23) (bz 40 2097151) HT_ ?_
  refine zP 21 (some 24) (bz 40 4194303) HT_ ?_
  refine zP 22 (some 25) (bz 40 8388607) HT_ ?_
  refine zU 23 (some 26) (bz 40 16777215) HT_ ?_
  refine zU 24 (some 27) (bz 40 33554431) HT_ ?_
  refine zU 25 (some 28) (bz 40 67108863) HT_ ?_
  refine zP 26 (some 29) (bz 40 134217727) HT_ ?_
  refine zP 27 (some 30) (bz 40 268435455) HT_ ?_
  refine zU 28 (some 31) (bz 40 536870911) HT_ ?_
  refine zU 29 (some 32) (bz 40 1073741823) HT_ ?_
  refine zU 30 (some 33) (bz 40 2147483647) HT_ ?_
  refine zU 31 (some 34) (bz 40 4294967295) HT_ ?_
  refine zU 32 (some 35) (bz 40 8589934591) HT_ ?_
  refine zU 33 (some 36) (bz 40 17179869183) HT_ ?_
  refine zU 34 (some 37) (bz 40 34359738367) HT_ ?_
  refine zU 35 (some 38) (bz 40 68719476735) HT_ ?_
  refine zU 36 (some 39) (bz 40 137438953471) HT_ ?_
  refine zU 37 (some 40) (bz 40 274877906943) HT_ ?_
  refine zP 38 (some 41) (bz 40 549755813887) HT_ ?_
  refine zP 39 (some 2) (bz 40 1099511627775) HT_ ?_
  refine done_ (done_of HT_.out (by kernel_rfl)) ?_
  try go_wp2
  go_ret
  exact ⟨by first | rfl | (simp [errW_none, errW_some] <;> rfl) | (simp [*, errW_none, errW_some] <;> rfl), zX HB.out GE112.out⟩

end Go.Proofs.YtglcdgalimgkeaaDoor.PJB
