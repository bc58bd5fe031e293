-- PRINTED by print.py (a twelfth state) out of the translation. Not trusted: Lean checks it.
import Derived.Test.YtglcdgalimgkeaaDoorSteps
import Derived.Test.YtglcdgalimgkeaaDoorPJBx0
import Derived.Test.YtglcdgalimgkeaaDoorPJBx1
import Derived.Test.YtglcdgalimgkeaaDoorPJBx2
import Derived.Test.YtglcdgalimgkeaaDoorPJBx12
import Derived.Test.YtglcdgalimgkeaaDoorPJBx16
import Derived.Test.YtglcdgalimgkeaaDoorPJBx22
import Derived.Test.YtglcdgalimgkeaaDoorPJBx26
import Derived.Test.YtglcdgalimgkeaaDoorPJBx27
import Derived.Test.YtglcdgalimgkeaaDoorPJBx28
import Derived.Test.YtglcdgalimgkeaaDoorPJBx30
namespace Go.Proofs.YtglcdgalimgkeaaDoor.PJB
open Go.RowKit Go.Proofs.YtglcdgalimgkeaaDoorW.PrintWords Go.Proofs.YtglcdgalimgkeaaDoorW.PrintLast Go.Proofs.YtglcdgalimgkeaaDoorW.PrintMore
attribute [local go_sem] max2_int min2_int max_two min_two max_three min_three max_four min_four   -- for this text's walks alone
set_option linter.unusedVariables false
set_option linter.unusedSimpArgs false

attribute [local go_sem high] eqA37 eqA54
/-! ### airchecklaw38_JudgeReasons: function 6 -/
mutual
def airchecklaw38_JudgeReasons.j0 : Nat → List (S74) → List (S54) → List (S54) → Bool → Bool → Int → Int → Int → Option (Bool)
 | 0, _, _, _, _, _, _, _, _ => none
 | k + 1, x7, x8, x9, x73, x388000, x388001, x388002, x388003 => if x73 = true then (some false) else (airchecklaw38_JudgeReasons.l0 k x7 x8 x9 0 0 (-1) 0 x388000 x388001 x388002 x388003)
def airchecklaw38_JudgeReasons.l0 : Nat → List (S74) → List (S54) → List (S54) → Int → Int → Int → Int → Bool → Int → Int → Int → Option (Bool)
 | 0, _, _, _, _, _, _, _, _, _, _, _ => none
 | k + 1, x7, x8, x9, x14, x15, x16, x17, x388000, x388001, x388002, x388003 => if x17 < (x8.length : Int) then ((timeline_At.f x7 x17).bind fun bt397 => (if bt397.2 = 0 then (if 0 ≤ x17 then (if x17 < (x9.length : Int) then (if (!(((rd_T54 x8 x17).f0) == ((rd_T54 x9 x17).f0)) || (!(((rd_T54 x8 x17).f1) == ((rd_T54 x9 x17).f1)))) = true then (airchecklaw38_JudgeReasons.j2 k x7 x8 x9 x14 x15 x16 x17 bt397.1 true x388000 x388001 x388002 x388003) else (if ((rd_T54 x8 x17).f0) = 1 then (airchecklaw38_JudgeReasons.j2 k x7 x8 x9 x14 x15 x16 x17 bt397.1 false x388000 x388001 x388002 x388003) else (airchecklaw38_JudgeReasons.j2 k x7 x8 x9 x14 x15 x16 x17 bt397.1 (((rd_T54 x8 x17).f0) != 2) x388000 x388001 x388002 x388003))) else (none)) else (none)) else (some false))) else (if x388002 = x14 then (if x388003 = x15 then (some (x388001 == x16)) else (some false)) else (some false))
def airchecklaw38_JudgeReasons.j2 : Nat → List (S74) → List (S54) → List (S54) → Int → Int → Int → Int → Int → Bool → Bool → Int → Int → Int → Option (Bool)
 | 0, _, _, _, _, _, _, _, _, _, _, _, _, _ => none
 | k + 1, x7, x8, x9, x14, x15, x16, x17, x18, x112, x388000, x388001, x388002, x388003 => if x112 = true then (airchecklaw38_JudgeReasons.l0 k x7 x8 x9 x14 x15 x16 (wrap64 (x17 + 1)) x388000 x388001 x388002 x388003) else (if 0 ≤ x17 then (if x17 < (x8.length : Int) then ((aircheckref38_Known.f).bind fun t404 => ((judge_Against.f k x18 ((rd_T54 x8 x17).f0) ((rd_T54 x8 x17).f1) t404).bind fun t407 => (if t407 = true then (if x16 < 0 then (airchecklaw38_JudgeReasons.l0 k x7 x8 x9 (wrap64 (x14 + 1)) (wrap64 (x15 + 1)) x17 (wrap64 (x17 + 1)) x388000 x388001 x388002 x388003) else (airchecklaw38_JudgeReasons.l0 k x7 x8 x9 (wrap64 (x14 + 1)) (wrap64 (x15 + 1)) x16 (wrap64 (x17 + 1)) x388000 x388001 x388002 x388003)) else (airchecklaw38_JudgeReasons.l0 k x7 x8 x9 (wrap64 (x14 + 1)) x15 x16 (wrap64 (x17 + 1)) x388000 x388001 x388002 x388003)))) else (none)) else (none))
end
def airchecklaw38_JudgeReasons.f (k : Nat) (a0 : Int) (l1 : List (S127)) (l2 : List (S101)) : Option (Bool) := (airchecklaw38_sane.f k).bind fun t369 => (if t369 = true then ((aircheckref15_Made.f k a0 l1).bind fun t370 => ((aircheckref38_Evidence.f k t370 l2).bind fun bt373 => ((aircheckref38_Known.f).bind fun t379 => ((judge_Judge.f k t370 0 bt373.1 bt373.2 t379).bind fun bt382 => ((aircheckref38_Known.f).bind fun t388 => ((judge_Judge.f k t370 0 bt373.2 bt373.1 t388).bind fun bt391 => (if bt382.2.2.2.2 = 0 then (if bt391.2.2.2.2 = 0 then (if (!(bt382.1 == bt391.1) || (!(bt382.2.1 == bt391.2.1) || (!(bt382.2.2.1 == bt391.2.2.1) || (!(bt382.2.2.2.1 == bt391.2.2.2.1))))) = true then (airchecklaw38_JudgeReasons.j0 k t370 bt373.1 bt373.2 true bt382.1 bt382.2.1 bt382.2.2.1 bt382.2.2.2.1) else (if (bt382.1 != (bt382.2.1 == (-1))) = true then (airchecklaw38_JudgeReasons.j0 k t370 bt373.1 bt373.2 true bt382.1 bt382.2.1 bt382.2.2.1 bt382.2.2.2.1) else (airchecklaw38_JudgeReasons.j0 k t370 bt373.1 bt373.2 (bt382.1 != (bt382.2.2.2.1 == 0)) bt382.1 bt382.2.1 bt382.2.2.1 bt382.2.2.2.1))) else (airchecklaw38_JudgeReasons.j0 k t370 bt373.1 bt373.2 true bt382.1 bt382.2.1 bt382.2.2.1 bt382.2.2.2.1)) else (airchecklaw38_JudgeReasons.j0 k t370 bt373.1 bt373.2 true bt382.1 bt382.2.1 bt382.2.2.1 bt382.2.2.2.1)))))))) else (some false))
def airchecklaw38_JudgeReasons.T18 : Bool × List (List Nat × List Nat) := (true, [([], []), ([], []), ([0, 1], [0, 1]), ([2], [2]), ([], []), ([], []), ([4, 5], [4, 5]), ([6], [6]), ([3, 7], [3, 7]), ([8], [8]), ([9], [9]), ([9], [9]), ([10, 11, 9], [9, 10, 11]), ([12, 9], [9, 12]), ([13, 9], [9, 13]), ([14, 9], [9, 14]), ([15, 9, 9], [9, 15]), ([16], [16]), ([16], [16]), ([17, 18, 16], [16, 17, 18]), ([19, 16], [16, 19]), ([20, 16], [16, 20]), ([21, 16], [16, 21]), ([16, 22, 9], [9, 16, 22]), ([9, 23], [9, 23])])
def airchecklaw38_JudgeReasons.B18 : List Nat := [0, 0, 3, 7, 0, 0, 48, 112, 255, 511, 1023, 1023, 4095, 8191, 16383, 32767, 65535, 131071, 131071, 524287, 1048575, 2097151, 4194303, 8388607, 16777215]
theorem airchecklaw38_JudgeReasons.tab18 : rtab .any (opsOf Tryd.f6 18) = airchecklaw38_JudgeReasons.T18 := by kernel_rfl
theorem airchecklaw38_JudgeReasons.bits18 : waitsOk airchecklaw38_JudgeReasons.T18.2 airchecklaw38_JudgeReasons.B18 = true := by kernel_rfl
set_option maxHeartbeats 8000000 in
set_option maxRecDepth 100000 in
theorem airchecklaw38_JudgeReasons.calls (k : Nat) (a0 : Int) (A1 : Option Addr) (c1 : Nat) (l1 : List (S127)) (A2 : Option Addr) (c2 : Nat) (l2 : List (S101)) (r : Bool) (hr0 : Aside0 (r = true)) (w : World) (hG : Aside0 (GG w)) (hr1 : Kd.C k127 w A1 l1.length l1) (hc1 : l1.length ≤ c1) (hr2 : Kd.C k101 w A2 l2.length l2) (hc2 : l2.length ≤ c2) (h : airchecklaw38_JudgeReasons.f k a0 l1 l2 = some r) :
  Calls Tryd.prog 6 #[.int .i64 a0, .slice A1 l1.length c1, .slice A2 l2.length c2] w fun e w' => e = .returned (.bool r) ∧ Below w.heap.size w w' := by
 have hu37 := Tryd.underlying37
 have hu54 := Tryd.underlying54
 have HR1 := Aside0.mk hr1
 have HC1 := Aside0.mk hc1
 clear hr1 hc1
 have HR2 := Aside0.mk hr2
 have HC2 := Aside0.mk hc2
 clear hr2 hc2
 have HB := Aside0.mk (Below.refl w.heap.size w)
 have H : ((airchecklaw38_sane.f k).bind fun t369 => (if t369 = true then ((aircheckref15_Made.f k a0 l1).bind fun t370 => ((aircheckref38_Evidence.f k t370 l2).bind fun bt373 => ((aircheckref38_Known.f).bind fun t379 => ((judge_Judge.f k t370 0 bt373.1 bt373.2 t379).bind fun bt382 => ((aircheckref38_Known.f).bind fun t388 => ((judge_Judge.f k t370 0 bt373.2 bt373.1 t388).bind fun bt391 => (if bt382.2.2.2.2 = 0 then (if bt391.2.2.2.2 = 0 then (if (!(bt382.1 == bt391.1) || (!(bt382.2.1 == bt391.2.1) || (!(bt382.2.2.1 == bt391.2.2.1) || (!(bt382.2.2.2.1 == bt391.2.2.2.1))))) = true then (airchecklaw38_JudgeReasons.j0 k t370 bt373.1 bt373.2 true bt382.1 bt382.2.1 bt382.2.2.1 bt382.2.2.2.1) else (if (bt382.1 != (bt382.2.1 == (-1))) = true then (airchecklaw38_JudgeReasons.j0 k t370 bt373.1 bt373.2 true bt382.1 bt382.2.1 bt382.2.2.1 bt382.2.2.2.1) else (airchecklaw38_JudgeReasons.j0 k t370 bt373.1 bt373.2 (bt382.1 != (bt382.2.2.2.1 == 0)) bt382.1 bt382.2.1 bt382.2.2.1 bt382.2.2.2.1))) else (airchecklaw38_JudgeReasons.j0 k t370 bt373.1 bt373.2 true bt382.1 bt382.2.1 bt382.2.2.1 bt382.2.2.2.1)) else (airchecklaw38_JudgeReasons.j0 k t370 bt373.1 bt373.2 true bt382.1 bt382.2.1 bt382.2.2.1 bt382.2.2.2.1)))))))) else (some false))) = some r := h
 clear h
 replace H := Option.bind_eq_some_iff.mp H
 obtain ⟨t369, A40, H⟩ := H
 have A4 := Aside0.mk A40
 clear A40
 by_cases c5 : t369 = true
 ·subst c5
  rw [if_pos rfl] at H
  replace H := Option.bind_eq_some_iff.mp H
  obtain ⟨t370, A60, H⟩ := H
  have A6 := Aside0.mk A60
  clear A60
  replace H := Option.bind_eq_some_iff.mp H
  obtain ⟨⟨t373, t374⟩, A70, H⟩ := H
  replace H : ((aircheckref38_Known.f).bind fun t379 => ((judge_Judge.f k t370 0 t373 t374 t379).bind fun bt382 => ((aircheckref38_Known.f).bind fun t388 => ((judge_Judge.f k t370 0 t374 t373 t388).bind fun bt391 => (if bt382.2.2.2.2 = 0 then (if bt391.2.2.2.2 = 0 then (if (!(bt382.1 == bt391.1) || (!(bt382.2.1 == bt391.2.1) || (!(bt382.2.2.1 == bt391.2.2.1) || (!(bt382.2.2.2.1 == bt391.2.2.2.1))))) = true then (airchecklaw38_JudgeReasons.j0 k t370 t373 t374 true bt382.1 bt382.2.1 bt382.2.2.1 bt382.2.2.2.1) else (if (bt382.1 != (bt382.2.1 == (-1))) = true then (airchecklaw38_JudgeReasons.j0 k t370 t373 t374 true bt382.1 bt382.2.1 bt382.2.2.1 bt382.2.2.2.1) else (airchecklaw38_JudgeReasons.j0 k t370 t373 t374 (bt382.1 != (bt382.2.2.2.1 == 0)) bt382.1 bt382.2.1 bt382.2.2.1 bt382.2.2.2.1))) else (airchecklaw38_JudgeReasons.j0 k t370 t373 t374 true bt382.1 bt382.2.1 bt382.2.2.1 bt382.2.2.2.1)) else (airchecklaw38_JudgeReasons.j0 k t370 t373 t374 true bt382.1 bt382.2.1 bt382.2.2.1 bt382.2.2.2.1)))))) = some r := H
  have A7 := Aside0.mk A70
  clear A70
  replace H := Option.bind_eq_some_iff.mp H
  obtain ⟨t379, A80, H⟩ := H
  have A8 := Aside0.mk A80
  clear A80
  replace H := Option.bind_eq_some_iff.mp H
  obtain ⟨⟨t382, t383, t384, t385, t386⟩, A90, H⟩ := H
  replace H : ((aircheckref38_Known.f).bind fun t388 => ((judge_Judge.f k t370 0 t374 t373 t388).bind fun bt391 => (if t386 = 0 then (if bt391.2.2.2.2 = 0 then (if (!(t382 == bt391.1) || (!(t383 == bt391.2.1) || (!(t384 == bt391.2.2.1) || (!(t385 == bt391.2.2.2.1))))) = true then (airchecklaw38_JudgeReasons.j0 k t370 t373 t374 true t382 t383 t384 t385) else (if (t382 != (t383 == (-1))) = true then (airchecklaw38_JudgeReasons.j0 k t370 t373 t374 true t382 t383 t384 t385) else (airchecklaw38_JudgeReasons.j0 k t370 t373 t374 (t382 != (t385 == 0)) t382 t383 t384 t385))) else (airchecklaw38_JudgeReasons.j0 k t370 t373 t374 true t382 t383 t384 t385)) else (airchecklaw38_JudgeReasons.j0 k t370 t373 t374 true t382 t383 t384 t385)))) = some r := H
  have A9 := Aside0.mk A90
  clear A90
  replace H := Option.bind_eq_some_iff.mp H
  obtain ⟨t388, A100, H⟩ := H
  have A10 := Aside0.mk A100
  clear A100
  replace H := Option.bind_eq_some_iff.mp H
  obtain ⟨⟨t391, t392, t393, t394, t395⟩, A110, H⟩ := H
  replace H : (if t386 = 0 then (if t395 = 0 then (if (!(t382 == t391) || (!(t383 == t392) || (!(t384 == t393) || (!(t385 == t394))))) = true then (airchecklaw38_JudgeReasons.j0 k t370 t373 t374 true t382 t383 t384 t385) else (if (t382 != (t383 == (-1))) = true then (airchecklaw38_JudgeReasons.j0 k t370 t373 t374 true t382 t383 t384 t385) else (airchecklaw38_JudgeReasons.j0 k t370 t373 t374 (t382 != (t385 == 0)) t382 t383 t384 t385))) else (airchecklaw38_JudgeReasons.j0 k t370 t373 t374 true t382 t383 t384 t385)) else (airchecklaw38_JudgeReasons.j0 k t370 t373 t374 true t382 t383 t384 t385)) = some r := H
  have A11 := Aside0.mk A110
  clear A110
  have HC12 := Aside0.mk H
  clear H
  go_enter Tryd.func6, Tryd.ntmps6
  go_upto_region 7 with (first | ((with_reducible refine gate_callee (f := 10) rfl ?_); refine goesL_ (some 20) rfl rfl Tryd.func10 (by kernel_rfl) rfl #[] rfl (by (try simp only [List.map_toArray, List.map_cons, List.map_nil]); first | done | rfl | (simp only [List.length_drop, List.length_take]; rfl)) ?_; (with_reducible refine (airchecklaw38_sane.calls k  true _ ?side1 A4.out).mono ?_); (case side1 => exact gg_at hG (zW HB.out)); rintro e w13 ⟨rfl, hb⟩; refine ⟨_, rfl, ?_⟩; have n0_ := Aside0.mk (below_step (zW HB.out) hb); clear HB; have HB := n0_; clear n0_; (try clear hb); (try clear hb2); (try clear hk); (try clear hi)) | ((with_reducible refine gate_callee (f := 11) rfl ?_); refine goesL_ (some 24) rfl rfl Tryd.func11 (by kernel_rfl) rfl #[.int .i64 a0, .slice A1 l1.length c1] rfl (by (try simp only [List.map_toArray, List.map_cons, List.map_nil]); first | done | rfl | (simp only [List.length_drop, List.length_take]; rfl)) ?_; (with_reducible refine (aircheckref15_Made.calls k a0 _ _ l1 t370 _ ?side1 ?side2 A6.out).mono ?_); (case side1 => exact zC (Kd.C_below HR1.out HB.out)); (case side2 => exact HC1.out); rintro e w14 ⟨v371, rfl, ho0, hb⟩; refine ⟨_, rfl, ?_⟩; have n0_ := Aside0.mk (Kd.R_lower ho0 (below_size (zW HB.out))); have n1_ := Aside0.mk (below_step (zW HB.out) hb); clear HB; have HO372 := n0_; have HB := n1_; clear n0_ n1_; (try clear hb); (try clear hb2); (try clear hk); (try clear hi); (try clear ho0); obtain ⟨Ao15, co15, eo15⟩ := Kd.R_slice HO372.out; subst eo15) | ((with_reducible refine gate_callee (f := 12) rfl ?_); refine goesL_ (some 28) rfl rfl Tryd.func12 (by kernel_rfl) rfl #[.slice Ao15 t370.length co15, .slice A2 l2.length c2] rfl (by (try simp only [List.map_toArray, List.map_cons, List.map_nil]); first | done | rfl | (simp only [List.length_drop, List.length_take]; rfl)) ?_; (with_reducible refine (aircheckref38_Evidence.calls k _ _ t370 _ _ l2 t373 t374 _ ?side1 ?side2 ?side3 ?side4 A7.out).mono ?_); (case side1 => exact zC (Kd.R_reads' HO372.out).2.2); (case side2 => exact (Kd.R_reads' HO372.out).2.1); (case side3 => exact zC (Kd.C_below HR2.out HB.out)); (case side4 => exact HC2.out); rintro e w16 ⟨v375, v377, rfl, ho0, ho1, hb⟩; refine ⟨_, rfl, ?_⟩; have n0_ := Aside0.mk (Kd.R_below (zR HO372.out) hb); have n1_ := Aside0.mk (Kd.R_lower ho0 (below_size (zW HB.out))); have n2_ := Aside0.mk (Kd.R_lower ho1 (below_size (zW HB.out))); have n3_ := Aside0.mk (below_step (zW HB.out) hb); clear HO372; clear HB; have HO372 := n0_; have HO376 := n1_; have HO378 := n2_; have HB := n3_; clear n0_ n1_ n2_ n3_; (try clear hb); (try clear hb2); (try clear hk); (try clear hi); (try clear ho0); (try clear ho1)) | ((with_reducible refine gate_callee (f := 18) rfl ?_); refine goesL_ (some 35) rfl rfl Tryd.func18 (by kernel_rfl) rfl #[] rfl (by (try simp only [List.map_toArray, List.map_cons, List.map_nil]); first | done | rfl | (simp only [List.length_drop, List.length_take]; rfl)) ?_; (with_reducible refine (aircheckref38_Known.calls  t379 _ A8.out).mono ?_); rintro e w17 ⟨v380, rfl, ho0, hb⟩; refine ⟨_, rfl, ?_⟩; have n0_ := Aside0.mk (Kd.R_below (zR HO372.out) hb); have n1_ := Aside0.mk (Kd.R_below (zR HO376.out) hb); have n2_ := Aside0.mk (Kd.R_below (zR HO378.out) hb); have n3_ := Aside0.mk (Kd.R_lower ho0 (below_size (zW HB.out))); have n4_ := Aside0.mk (below_step (zW HB.out) hb); clear HO372; clear HO376; clear HO378; clear HB; have HO372 := n0_; have HO376 := n1_; have HO378 := n2_; have HO381 := n3_; have HB := n4_; clear n0_ n1_ n2_ n3_ n4_; (try clear hb); (try clear hb2); (try clear hk); (try clear hi); (try clear ho0); obtain ⟨Ao18, co18, eo18⟩ := Kd.R_slice HO376.out; subst eo18; obtain ⟨Ao19, co19, eo19⟩ := Kd.R_slice HO378.out; subst eo19; obtain ⟨Ao20, co20, eo20⟩ := Kd.R_slice HO381.out; subst eo20) | ((with_reducible refine gate_callee (f := 16) rfl ?_); refine goesL_ (some 36) rfl rfl Tryd.func16 (by kernel_rfl) rfl #[.slice Ao15 t370.length co15, .int .i64 0, .slice Ao18 t373.length co18, .slice Ao19 t374.length co19, .slice Ao20 t379.length co20] rfl (by (try simp only [List.map_toArray, List.map_cons, List.map_nil]); first | done | rfl | (simp only [List.length_drop, List.length_take]; rfl)) ?_; (with_reducible refine (judge_Judge.calls k _ _ t370 0 _ _ t373 _ _ t374 _ _ t379 t382 t383 t384 t385 t386 _ ?side9 ?side1 ?side2 ?side3 ?side4 ?side5 ?side6 ?side7 ?side8 A9.out).mono ?_); (case side1 => exact zC (Kd.R_reads' HO372.out).2.2); (case side2 => exact (Kd.R_reads' HO372.out).2.1); (case side3 => exact zC (Kd.R_reads' HO376.out).2.2); (case side4 => exact (Kd.R_reads' HO376.out).2.1); (case side5 => exact zC (Kd.R_reads' HO378.out).2.2); (case side6 => exact (Kd.R_reads' HO378.out).2.1); (case side7 => exact zC (Kd.R_reads' HO381.out).2.2); (case side8 => exact (Kd.R_reads' HO381.out).2.1); (case side9 => exact gg_at hG (zW HB.out)); rintro e w21 ⟨rfl, hb⟩; refine ⟨_, rfl, ?_⟩; have n0_ := Aside0.mk (Kd.R_below (zR HO372.out) hb); have n1_ := Aside0.mk (Kd.R_below (zR HO376.out) hb); have n2_ := Aside0.mk (Kd.R_below (zR HO378.out) hb); have n3_ := Aside0.mk (Kd.R_below (zR HO381.out) hb); have n4_ := Aside0.mk (below_step (zW HB.out) hb); clear HO372; clear HO376; clear HO378; clear HO381; clear HB; have HO372 := n0_; have HO376 := n1_; have HO378 := n2_; have HO381 := n3_; have HB := n4_; clear n0_ n1_ n2_ n3_ n4_; (try clear hb); (try clear hb2); (try clear hk); (try clear hi)) | ((with_reducible refine gate_dst (N := 10) rfl ?_); refine box_event ?hg (N := 10) ?hd (cs := #[.bool false, .int .i64 0, .int .i64 0, .int .i64 0]) (t := 37) ?hr ?_; (case hd => rfl); (case hg => rfl); (case hr => first | (go_simp; done) | (go_simp; rfl)); intro gb387 hg w22 hbox hb; have n0_ := Aside0.mk (Kd.R_below (zR HO372.out) hb); have n1_ := Aside0.mk (Kd.R_below (zR HO376.out) hb); have n2_ := Aside0.mk (Kd.R_below (zR HO378.out) hb); have n3_ := Aside0.mk (Kd.R_below (zR HO381.out) hb); have n4_ := Aside0.mk (below_step (zW HB.out) hb); have n5_ := Aside0.mk (hbox); have n6_ := Aside0.mk ((by rw [hg]; exact (below_size (zW HB.out)) : w.heap.size ≤ gb387)); have n7_ := Aside0.mk ((by rw [hg]; exact (below_size (zW HB.out)) : w.heap.size ≤ gb387)); clear HO372; clear HO376; clear HO378; clear HO381; clear HB; have HO372 := n0_; have HO376 := n1_; have HO378 := n2_; have HO381 := n3_; have HB := n4_; have BK387 := n5_; have GW387 := n6_; have GE387 := n7_; clear n0_ n1_ n2_ n3_ n4_ n5_ n6_ n7_; clear hb hbox hg; have hcz23_0 : w22.cell? ⟨gb387, 0, none⟩ = some (.bool false) := (blk_cell BK387.out 0).trans rfl; have hcz23_1 : w22.cell? ⟨gb387, 1, none⟩ = some (.int .i64 0) := (blk_cell BK387.out 1).trans rfl; have hcz23_2 : w22.cell? ⟨gb387, 2, none⟩ = some (.int .i64 0) := (blk_cell BK387.out 2).trans rfl; have hcz23_3 : w22.cell? ⟨gb387, 3, none⟩ = some (.int .i64 0) := (blk_cell BK387.out 3).trans rfl; have hfz23_0 := blk_frozen BK387.out 0; have hfz23_1 := blk_frozen BK387.out 1; have hfz23_2 := blk_frozen BK387.out 2; have hfz23_3 := blk_frozen BK387.out 3) | ((with_reducible refine gate_callee (f := 18) rfl ?_); refine goesL_ (some 43) rfl rfl Tryd.func18 (by kernel_rfl) rfl #[] rfl (by (try simp only [List.map_toArray, List.map_cons, List.map_nil]); first | done | rfl | (simp only [List.length_drop, List.length_take]; rfl)) ?_; (with_reducible refine (aircheckref38_Known.calls  t388 _ A10.out).mono ?_); rintro e w24 ⟨v389, rfl, ho0, hb⟩; refine ⟨_, rfl, ?_⟩; have n0_ := Aside0.mk (Kd.R_below (by (with_reducible repeat (first | apply Kd.R_alloc | apply Kd.R_drewN | apply Kd.R_drew)); exact (Kd.R_mono (Kd.R_far (p := ⟨gb387, 3, none⟩) (Kd.R_far (p := ⟨gb387, 2, none⟩) (Kd.R_far (p := ⟨gb387, 1, none⟩) (Kd.R_far (p := ⟨gb387, 0, none⟩) (Kd.R_types HO372.out BK387.out (by decide)) (fun _ hk => hk.2) (.bool t382)) (fun _ hk => hk.2) (.int .i64 t383)) (fun _ hk => hk.2) (.int .i64 t384)) (fun _ hk => hk.2) (.int .i64 t385)) (fun _ h_ => h_.1))) hb); have n1_ := Aside0.mk (Kd.R_below (by (with_reducible repeat (first | apply Kd.R_alloc | apply Kd.R_drewN | apply Kd.R_drew)); exact (Kd.R_mono (Kd.R_far (p := ⟨gb387, 3, none⟩) (Kd.R_far (p := ⟨gb387, 2, none⟩) (Kd.R_far (p := ⟨gb387, 1, none⟩) (Kd.R_far (p := ⟨gb387, 0, none⟩) (Kd.R_types HO376.out BK387.out (by decide)) (fun _ hk => hk.2) (.bool t382)) (fun _ hk => hk.2) (.int .i64 t383)) (fun _ hk => hk.2) (.int .i64 t384)) (fun _ hk => hk.2) (.int .i64 t385)) (fun _ h_ => h_.1))) hb); have n2_ := Aside0.mk (Kd.R_below (by (with_reducible repeat (first | apply Kd.R_alloc | apply Kd.R_drewN | apply Kd.R_drew)); exact (Kd.R_mono (Kd.R_far (p := ⟨gb387, 3, none⟩) (Kd.R_far (p := ⟨gb387, 2, none⟩) (Kd.R_far (p := ⟨gb387, 1, none⟩) (Kd.R_far (p := ⟨gb387, 0, none⟩) (Kd.R_types HO378.out BK387.out (by decide)) (fun _ hk => hk.2) (.bool t382)) (fun _ hk => hk.2) (.int .i64 t383)) (fun _ hk => hk.2) (.int .i64 t384)) (fun _ hk => hk.2) (.int .i64 t385)) (fun _ h_ => h_.1))) hb); have n3_ := Aside0.mk (Kd.R_elder' (by (with_reducible repeat (first | apply Kd.R_alloc | apply Kd.R_drewN | apply Kd.R_drew)); exact (Kd.R_mono (Kd.R_far (p := ⟨gb387, 3, none⟩) (Kd.R_far (p := ⟨gb387, 2, none⟩) (Kd.R_far (p := ⟨gb387, 1, none⟩) (Kd.R_far (p := ⟨gb387, 0, none⟩) (Kd.R_types HO381.out BK387.out (by decide)) (fun _ hk => hk.2) (.bool t382)) (fun _ hk => hk.2) (.int .i64 t383)) (fun _ hk => hk.2) (.int .i64 t384)) (fun _ hk => hk.2) (.int .i64 t385)) (fun _ h_ => h_.1))) (Kd.R_base ho0) hb); have n4_ := Aside0.mk (Kd.R_lower (Kd.R_new' ho0 (Kd.R_lt (by (with_reducible repeat (first | apply Kd.R_alloc | apply Kd.R_drewN | apply Kd.R_drew)); exact (Kd.R_mono (Kd.R_far (p := ⟨gb387, 3, none⟩) (Kd.R_far (p := ⟨gb387, 2, none⟩) (Kd.R_far (p := ⟨gb387, 1, none⟩) (Kd.R_far (p := ⟨gb387, 0, none⟩) (Kd.R_types HO381.out BK387.out (by decide)) (fun _ hk => hk.2) (.bool t382)) (fun _ hk => hk.2) (.int .i64 t383)) (fun _ hk => hk.2) (.int .i64 t384)) (fun _ hk => hk.2) (.int .i64 t385)) (fun _ h_ => h_.1))))) (below_size (zX HB.out GE387.out))); have n5_ := Aside0.mk (blk_below (g := gb387) (o := .cells #[.bool t382, .int .i64 t383, .int .i64 t384, .int .i64 t385] 37 (0, 0)) (by (with_reducible repeat (first | refine blk_drewN ?_ _ | refine blk_drew ?_ | refine blk_alloc ?_ _)); refine blk_put (cs := #[.bool t382, .int .i64 t383, .int .i64 t384, .int .i64 0]) ?_ 3 _ rfl; (with_reducible repeat (first | refine blk_drewN ?_ _ | refine blk_drew ?_ | refine blk_alloc ?_ _)); refine blk_put (cs := #[.bool t382, .int .i64 t383, .int .i64 0, .int .i64 0]) ?_ 2 _ rfl; (with_reducible repeat (first | refine blk_drewN ?_ _ | refine blk_drew ?_ | refine blk_alloc ?_ _)); refine blk_put (cs := #[.bool t382, .int .i64 0, .int .i64 0, .int .i64 0]) ?_ 1 _ rfl; (with_reducible repeat (first | refine blk_drewN ?_ _ | refine blk_drew ?_ | refine blk_alloc ?_ _)); refine blk_put (cs := #[.bool false, .int .i64 0, .int .i64 0, .int .i64 0]) ?_ 0 _ rfl; (with_reducible repeat (first | refine blk_drewN ?_ _ | refine blk_drew ?_ | refine blk_alloc ?_ _)); exact BK387.out) hb); have n6_ := Aside0.mk (below_step (zX HB.out GE387.out) hb); clear HO372; clear HO376; clear HO378; clear HO381; clear BK387; clear HB; have HO372 := n0_; have HO376 := n1_; have HO378 := n2_; have HO381 := n3_; have HO390 := n4_; have BK387 := n5_; have HB := n6_; clear n0_ n1_ n2_ n3_ n4_ n5_ n6_; (try clear hb); (try clear hb2); (try clear hk); (try clear hi); (try clear ho0); obtain ⟨Ao25, co25, eo25⟩ := Kd.R_slice HO390.out; subst eo25) | ((with_reducible refine gate_callee (f := 16) rfl ?_); refine goesL_ (some 44) rfl rfl Tryd.func16 (by kernel_rfl) rfl #[.slice Ao15 t370.length co15, .int .i64 0, .slice Ao19 t374.length co19, .slice Ao18 t373.length co18, .slice Ao25 t388.length co25] rfl (by (try simp only [List.map_toArray, List.map_cons, List.map_nil]); first | done | rfl | (simp only [List.length_drop, List.length_take]; rfl)) ?_; (with_reducible refine (judge_Judge.calls k _ _ t370 0 _ _ t374 _ _ t373 _ _ t388 t391 t392 t393 t394 t395 _ ?side9 ?side1 ?side2 ?side3 ?side4 ?side5 ?side6 ?side7 ?side8 A11.out).mono ?_); (case side1 => exact zC (Kd.R_reads' HO372.out).2.2); (case side2 => exact (Kd.R_reads' HO372.out).2.1); (case side3 => exact zC (Kd.R_reads' HO378.out).2.2); (case side4 => exact (Kd.R_reads' HO378.out).2.1); (case side5 => exact zC (Kd.R_reads' HO376.out).2.2); (case side6 => exact (Kd.R_reads' HO376.out).2.1); (case side7 => exact zC (Kd.R_reads' HO390.out).2.2); (case side8 => exact (Kd.R_reads' HO390.out).2.1); (case side9 => exact gg_at hG (zX HB.out GE387.out)); rintro e w26 ⟨rfl, hb⟩; refine ⟨_, rfl, ?_⟩; have n0_ := Aside0.mk (Kd.R_below (zR HO372.out) hb); have n1_ := Aside0.mk (Kd.R_below (zR HO376.out) hb); have n2_ := Aside0.mk (Kd.R_below (zR HO378.out) hb); have n3_ := Aside0.mk (Kd.R_below (zR HO381.out) hb); have n4_ := Aside0.mk (Kd.R_below (zR HO390.out) hb); have n5_ := Aside0.mk (blk_below (g := gb387) (o := .cells #[.bool t382, .int .i64 t383, .int .i64 t384, .int .i64 t385] 37 (0, 0)) (zB BK387.out) hb); have n6_ := Aside0.mk (below_step (zX HB.out GE387.out) hb); clear HO372; clear HO376; clear HO378; clear HO381; clear HO390; clear BK387; clear HB; have HO372 := n0_; have HO376 := n1_; have HO378 := n2_; have HO381 := n3_; have HO390 := n4_; have BK387 := n5_; have HB := n6_; clear n0_ n1_ n2_ n3_ n4_ n5_ n6_; (try clear hb); (try clear hb2); (try clear hk); (try clear hi)) | ((with_reducible refine gate_dst (N := 12) rfl ?_); refine box_event ?hg (N := 12) ?hd (cs := #[.bool false, .int .i64 0, .int .i64 0, .int .i64 0]) (t := 37) ?hr ?_; (case hd => rfl); (case hg => rfl); (case hr => first | (go_simp; done) | (go_simp; rfl)); intro gb396 hg w27 hbox hb; have n0_ := Aside0.mk (Kd.R_below (zR HO372.out) hb); have n1_ := Aside0.mk (Kd.R_below (zR HO376.out) hb); have n2_ := Aside0.mk (Kd.R_below (zR HO378.out) hb); have n3_ := Aside0.mk (Kd.R_below (zR HO381.out) hb); have n4_ := Aside0.mk (Kd.R_below (zR HO390.out) hb); have n5_ := Aside0.mk (blk_below (g := gb387) (o := .cells #[.bool t382, .int .i64 t383, .int .i64 t384, .int .i64 t385] 37 (0, 0)) (zB BK387.out) hb); have n6_ := Aside0.mk (below_step (zX HB.out GE387.out) hb); have n7_ := Aside0.mk (hbox); have n8_ := Aside0.mk ((by rw [hg]; exact (below_size (zX HB.out GE387.out)) : w.heap.size ≤ gb396)); have n9_ := Aside0.mk ((by rw [hg]; exact (below_size (zX HB.out GE387.out)) : w.heap.size ≤ gb396)); have n10_ := Aside0.mk ((by rw [hg]; exact Nat.ne_of_lt (blk_lt (g := gb387) (o := .cells #[.bool t382, .int .i64 t383, .int .i64 t384, .int .i64 t385] 37 (0, 0)) (zB BK387.out)) : gb387 ≠ gb396)); have n11_ := Aside0.mk ((by rw [hg]; exact Nat.ne_of_gt (blk_lt (g := gb387) (o := .cells #[.bool t382, .int .i64 t383, .int .i64 t384, .int .i64 t385] 37 (0, 0)) (zB BK387.out)) : gb396 ≠ gb387)); clear HO372; clear HO376; clear HO378; clear HO381; clear HO390; clear BK387; clear HB; have HO372 := n0_; have HO376 := n1_; have HO378 := n2_; have HO381 := n3_; have HO390 := n4_; have BK387 := n5_; have HB := n6_; have BK396 := n7_; have GW396 := n8_; have GE396 := n9_; have NB387_396 := n10_; have NB396_387 := n11_; clear n0_ n1_ n2_ n3_ n4_ n5_ n6_ n7_ n8_ n9_ n10_ n11_; clear hb hbox hg; have hnb28 := NB396_387.out; have hnc28 := NB387_396.out; have hcz29_0 : w27.cell? ⟨gb396, 0, none⟩ = some (.bool false) := (blk_cell BK396.out 0).trans rfl; have hcz29_1 : w27.cell? ⟨gb396, 1, none⟩ = some (.int .i64 0) := (blk_cell BK396.out 1).trans rfl; have hcz29_2 : w27.cell? ⟨gb396, 2, none⟩ = some (.int .i64 0) := (blk_cell BK396.out 2).trans rfl; have hcz29_3 : w27.cell? ⟨gb396, 3, none⟩ = some (.int .i64 0) := (blk_cell BK396.out 3).trans rfl; have hfz29_0 := blk_frozen BK396.out 0; have hfz29_1 := blk_frozen BK396.out 1; have hfz29_2 := blk_frozen BK396.out 2; have hfz29_3 := blk_frozen BK396.out 3))
  (try simp only [Act.put, List.setIfInBounds_toArray, List.set_cons_zero, List.set_cons_succ])
  go_cut [73] (fun v73 wc => ∃ (kq : Nat) (x73_11 : Bool), v73 = .bool x73_11 ∧ Aside0 (airchecklaw38_JudgeReasons.j0 kq t370 t373 t374 x73_11 t382 t383 t384 t385 = some r) ∧ Aside0 (kq ≤ k) ∧ Aside0 (Kd.R k74 74 wc w.heap.size (fun _ => True) (.slice Ao15 t370.length co15) t370) ∧ Aside0 (Kd.R k54 54 wc w.heap.size (fun k_ => some k_ ≠ ((.slice Ao19 t374.length co19) : Value).ownBlock) (.slice Ao18 t373.length co18) t373) ∧ Aside0 (Kd.R k54 54 wc w.heap.size (fun k_ => some k_ ≠ ((.slice Ao18 t373.length co18) : Value).ownBlock) (.slice Ao19 t374.length co19) t374) ∧ Aside0 (wc.heap[gb387]? = some (.cells #[.bool t382, .int .i64 t383, .int .i64 t384, .int .i64 t385] 37 (0, 0))) ∧ Aside0 (wc.heap[gb396]? = some (.cells #[.bool t391, .int .i64 t392, .int .i64 t393, .int .i64 t394] 37 (0, 0))) ∧ Aside0 (Below w.heap.size w wc))
  case first =>
   have H := HC12.out
   clear HC12
   by_cases c30 : t386 = 0
   ·rw [if_pos c30] at H
    have c30b0 : (t386 == 0) = true := beq_iff_eq.mpr c30
    have c30b1 : (t386 != 0) = false := bne_eq_false_iff_eq.mpr c30
    clear c30
    (first | rw [c30b0] | (simp only [i64_w, i32_w]; rw [c30b0]) | skip)
    by_cases c31 : t395 = 0
    ·rw [if_pos c31] at H
     have c31b0 : (t395 == 0) = true := beq_iff_eq.mpr c31
     have c31b1 : (t395 != 0) = false := bne_eq_false_iff_eq.mpr c31
     clear c31
     by_cases c32 : (!(t382 == t391) || (!(t383 == t392) || (!(t384 == t393) || (!(t385 == t394))))) = true
     ·rw [if_pos c32] at H
      have c32b0 : (!(t382 == t391) || (!(t383 == t392) || (!(t384 == t393) || (!(t385 == t394))))) = true := c32
      clear c32
      have H' := Aside0.mk H
      clear H
      have hnb33 := NB387_396.out
      have hnc33 := NB396_387.out
      have hcz34_0 : w27.cell? ⟨gb387, 0, none⟩ = some (.bool t382) := (blk_cell BK387.out 0).trans rfl
      have hcz34_1 : w27.cell? ⟨gb387, 1, none⟩ = some (.int .i64 t383) := (blk_cell BK387.out 1).trans rfl
      have hcz34_2 : w27.cell? ⟨gb387, 2, none⟩ = some (.int .i64 t384) := (blk_cell BK387.out 2).trans rfl
      have hcz34_3 : w27.cell? ⟨gb387, 3, none⟩ = some (.int .i64 t385) := (blk_cell BK387.out 3).trans rfl
      have hfz34_0 := blk_frozen BK387.out 0
      have hfz34_1 := blk_frozen BK387.out 1
      have hfz34_2 := blk_frozen BK387.out 2
      have hfz34_3 := blk_frozen BK387.out 3
      have hcz35_0 : w27.cell? ⟨gb396, 0, none⟩ = some (.bool false) := (blk_cell BK396.out 0).trans rfl
      have hcz35_1 : w27.cell? ⟨gb396, 1, none⟩ = some (.int .i64 0) := (blk_cell BK396.out 1).trans rfl
      have hcz35_2 : w27.cell? ⟨gb396, 2, none⟩ = some (.int .i64 0) := (blk_cell BK396.out 2).trans rfl
      have hcz35_3 : w27.cell? ⟨gb396, 3, none⟩ = some (.int .i64 0) := (blk_cell BK396.out 3).trans rfl
      have hfz35_0 := blk_frozen BK396.out 0
      have hfz35_1 := blk_frozen BK396.out 1
      have hfz35_2 := blk_frozen BK396.out 2
      have hfz35_3 := blk_frozen BK396.out 3
      go_wp2
      go_meet
      case rel => exact ⟨_, (true), zE, H', ⟨by first | omega | exact Nat.le_refl _⟩, ⟨by (with_reducible repeat (first | apply Kd.R_alloc | apply Kd.R_drewN | apply Kd.R_drew)); exact Kd.R_mono (Kd.R_far (p := ⟨gb396, 3, none⟩) (Kd.R_far (p := ⟨gb396, 2, none⟩) (Kd.R_far (p := ⟨gb396, 1, none⟩) (Kd.R_far (p := ⟨gb396, 0, none⟩) (Kd.R_types HO372.out BK396.out (by decide)) (fun _ hk => hk.2) (.bool t391)) (fun _ hk => hk.2) (.int .i64 t392)) (fun _ hk => hk.2) (.int .i64 t393)) (fun _ hk => hk.2) (.int .i64 t394)) (fun _ hk => trivial)⟩, ⟨by (with_reducible repeat (first | apply Kd.R_alloc | apply Kd.R_drewN | apply Kd.R_drew)); exact Kd.R_mono (Kd.R_far (p := ⟨gb396, 3, none⟩) (Kd.R_far (p := ⟨gb396, 2, none⟩) (Kd.R_far (p := ⟨gb396, 1, none⟩) (Kd.R_far (p := ⟨gb396, 0, none⟩) (Kd.R_types HO376.out BK396.out (by decide)) (fun _ hk => hk.2) (.bool t391)) (fun _ hk => hk.2) (.int .i64 t392)) (fun _ hk => hk.2) (.int .i64 t393)) (fun _ hk => hk.2) (.int .i64 t394)) (fun _ hk => hk.1)⟩, ⟨by (with_reducible repeat (first | apply Kd.R_alloc | apply Kd.R_drewN | apply Kd.R_drew)); exact Kd.R_mono (Kd.R_far (p := ⟨gb396, 3, none⟩) (Kd.R_far (p := ⟨gb396, 2, none⟩) (Kd.R_far (p := ⟨gb396, 1, none⟩) (Kd.R_far (p := ⟨gb396, 0, none⟩) (Kd.R_types HO378.out BK396.out (by decide)) (fun _ hk => hk.2) (.bool t391)) (fun _ hk => hk.2) (.int .i64 t392)) (fun _ hk => hk.2) (.int .i64 t393)) (fun _ hk => hk.2) (.int .i64 t394)) (fun _ hk => hk.1)⟩, ⟨by (with_reducible repeat (first | refine blk_drewN ?_ _ | refine blk_drew ?_ | refine blk_alloc ?_ _)); refine blk_far ?_ NB387_396.out _; (with_reducible repeat (first | refine blk_drewN ?_ _ | refine blk_drew ?_ | refine blk_alloc ?_ _)); refine blk_far ?_ NB387_396.out _; (with_reducible repeat (first | refine blk_drewN ?_ _ | refine blk_drew ?_ | refine blk_alloc ?_ _)); refine blk_far ?_ NB387_396.out _; (with_reducible repeat (first | refine blk_drewN ?_ _ | refine blk_drew ?_ | refine blk_alloc ?_ _)); refine blk_far ?_ NB387_396.out _; (with_reducible repeat (first | refine blk_drewN ?_ _ | refine blk_drew ?_ | refine blk_alloc ?_ _)); exact BK387.out⟩, ⟨by (with_reducible repeat (first | refine blk_drewN ?_ _ | refine blk_drew ?_ | refine blk_alloc ?_ _)); refine blk_put (cs := #[.bool t391, .int .i64 t392, .int .i64 t393, .int .i64 0]) ?_ 3 _ rfl; (with_reducible repeat (first | refine blk_drewN ?_ _ | refine blk_drew ?_ | refine blk_alloc ?_ _)); refine blk_put (cs := #[.bool t391, .int .i64 t392, .int .i64 0, .int .i64 0]) ?_ 2 _ rfl; (with_reducible repeat (first | refine blk_drewN ?_ _ | refine blk_drew ?_ | refine blk_alloc ?_ _)); refine blk_put (cs := #[.bool t391, .int .i64 0, .int .i64 0, .int .i64 0]) ?_ 1 _ rfl; (with_reducible repeat (first | refine blk_drewN ?_ _ | refine blk_drew ?_ | refine blk_alloc ?_ _)); refine blk_put (cs := #[.bool false, .int .i64 0, .int .i64 0, .int .i64 0]) ?_ 0 _ rfl; (with_reducible repeat (first | refine blk_drewN ?_ _ | refine blk_drew ?_ | refine blk_alloc ?_ _)); exact BK396.out⟩, ⟨by repeat (first | (with_reducible first | exact HB.out | apply below_alloc | apply pw_below_drewN | apply below_drew1 | refine below_set ?_ GE387.out | refine below_set ?_ GE396.out) | exact HB.out)⟩⟩
     ·rw [if_neg c32] at H
      have c32b0 : (!(t382 == t391) || (!(t383 == t392) || (!(t384 == t393) || (!(t385 == t394))))) = false := by simpa using c32
      clear c32
      by_cases c36 : (t382 != (t383 == (-1))) = true
      ·rw [if_pos c36] at H
       have c36b0 : (t382 != (t383 == (-1))) = true := c36
       (try (have c36b1 : decide (t382 = (t383 == (-1))) = false := by simpa using c36))
       (try (have c36b2 : (t382 == (t383 == (-1))) = false := by simpa using c36))
       (try (have c36b3 : ¬ (t382 = (t383 == (-1))) := by simpa using c36))
       clear c36
       have H' := Aside0.mk H
       clear H
       have hnb37 := NB387_396.out
       have hnc37 := NB396_387.out
       have hcz38_0 : w27.cell? ⟨gb387, 0, none⟩ = some (.bool t382) := (blk_cell BK387.out 0).trans rfl
       have hcz38_1 : w27.cell? ⟨gb387, 1, none⟩ = some (.int .i64 t383) := (blk_cell BK387.out 1).trans rfl
       have hcz38_2 : w27.cell? ⟨gb387, 2, none⟩ = some (.int .i64 t384) := (blk_cell BK387.out 2).trans rfl
       have hcz38_3 : w27.cell? ⟨gb387, 3, none⟩ = some (.int .i64 t385) := (blk_cell BK387.out 3).trans rfl
       have hfz38_0 := blk_frozen BK387.out 0
       have hfz38_1 := blk_frozen BK387.out 1
       have hfz38_2 := blk_frozen BK387.out 2
       have hfz38_3 := blk_frozen BK387.out 3
       have hcz39_0 : w27.cell? ⟨gb396, 0, none⟩ = some (.bool false) := (blk_cell BK396.out 0).trans rfl
       have hcz39_1 : w27.cell? ⟨gb396, 1, none⟩ = some (.int .i64 0) := (blk_cell BK396.out 1).trans rfl
       have hcz39_2 : w27.cell? ⟨gb396, 2, none⟩ = some (.int .i64 0) := (blk_cell BK396.out 2).trans rfl
       have hcz39_3 : w27.cell? ⟨gb396, 3, none⟩ = some (.int .i64 0) := (blk_cell BK396.out 3).trans rfl
       have hfz39_0 := blk_frozen BK396.out 0
       have hfz39_1 := blk_frozen BK396.out 1
       have hfz39_2 := blk_frozen BK396.out 2
       have hfz39_3 := blk_frozen BK396.out 3
       go_wp2
       go_meet
       case rel => exact ⟨_, (true), zE, H', ⟨by first | omega | exact Nat.le_refl _⟩, ⟨by (with_reducible repeat (first | apply Kd.R_alloc | apply Kd.R_drewN | apply Kd.R_drew)); exact Kd.R_mono (Kd.R_far (p := ⟨gb396, 3, none⟩) (Kd.R_far (p := ⟨gb396, 2, none⟩) (Kd.R_far (p := ⟨gb396, 1, none⟩) (Kd.R_far (p := ⟨gb396, 0, none⟩) (Kd.R_types HO372.out BK396.out (by decide)) (fun _ hk => hk.2) (.bool t391)) (fun _ hk => hk.2) (.int .i64 t392)) (fun _ hk => hk.2) (.int .i64 t393)) (fun _ hk => hk.2) (.int .i64 t394)) (fun _ hk => trivial)⟩, ⟨by (with_reducible repeat (first | apply Kd.R_alloc | apply Kd.R_drewN | apply Kd.R_drew)); exact Kd.R_mono (Kd.R_far (p := ⟨gb396, 3, none⟩) (Kd.R_far (p := ⟨gb396, 2, none⟩) (Kd.R_far (p := ⟨gb396, 1, none⟩) (Kd.R_far (p := ⟨gb396, 0, none⟩) (Kd.R_types HO376.out BK396.out (by decide)) (fun _ hk => hk.2) (.bool t391)) (fun _ hk => hk.2) (.int .i64 t392)) (fun _ hk => hk.2) (.int .i64 t393)) (fun _ hk => hk.2) (.int .i64 t394)) (fun _ hk => hk.1)⟩, ⟨by (with_reducible repeat (first | apply Kd.R_alloc | apply Kd.R_drewN | apply Kd.R_drew)); exact Kd.R_mono (Kd.R_far (p := ⟨gb396, 3, none⟩) (Kd.R_far (p := ⟨gb396, 2, none⟩) (Kd.R_far (p := ⟨gb396, 1, none⟩) (Kd.R_far (p := ⟨gb396, 0, none⟩) (Kd.R_types HO378.out BK396.out (by decide)) (fun _ hk => hk.2) (.bool t391)) (fun _ hk => hk.2) (.int .i64 t392)) (fun _ hk => hk.2) (.int .i64 t393)) (fun _ hk => hk.2) (.int .i64 t394)) (fun _ hk => hk.1)⟩, ⟨by (with_reducible repeat (first | refine blk_drewN ?_ _ | refine blk_drew ?_ | refine blk_alloc ?_ _)); refine blk_far ?_ NB387_396.out _; (with_reducible repeat (first | refine blk_drewN ?_ _ | refine blk_drew ?_ | refine blk_alloc ?_ _)); refine blk_far ?_ NB387_396.out _; (with_reducible repeat (first | refine blk_drewN ?_ _ | refine blk_drew ?_ | refine blk_alloc ?_ _)); refine blk_far ?_ NB387_396.out _; (with_reducible repeat (first | refine blk_drewN ?_ _ | refine blk_drew ?_ | refine blk_alloc ?_ _)); refine blk_far ?_ NB387_396.out _; (with_reducible repeat (first | refine blk_drewN ?_ _ | refine blk_drew ?_ | refine blk_alloc ?_ _)); exact BK387.out⟩, ⟨by (with_reducible repeat (first | refine blk_drewN ?_ _ | refine blk_drew ?_ | refine blk_alloc ?_ _)); refine blk_put (cs := #[.bool t391, .int .i64 t392, .int .i64 t393, .int .i64 0]) ?_ 3 _ rfl; (with_reducible repeat (first | refine blk_drewN ?_ _ | refine blk_drew ?_ | refine blk_alloc ?_ _)); refine blk_put (cs := #[.bool t391, .int .i64 t392, .int .i64 0, .int .i64 0]) ?_ 2 _ rfl; (with_reducible repeat (first | refine blk_drewN ?_ _ | refine blk_drew ?_ | refine blk_alloc ?_ _)); refine blk_put (cs := #[.bool t391, .int .i64 0, .int .i64 0, .int .i64 0]) ?_ 1 _ rfl; (with_reducible repeat (first | refine blk_drewN ?_ _ | refine blk_drew ?_ | refine blk_alloc ?_ _)); refine blk_put (cs := #[.bool false, .int .i64 0, .int .i64 0, .int .i64 0]) ?_ 0 _ rfl; (with_reducible repeat (first | refine blk_drewN ?_ _ | refine blk_drew ?_ | refine blk_alloc ?_ _)); exact BK396.out⟩, ⟨by repeat (first | (with_reducible first | exact HB.out | apply below_alloc | apply pw_below_drewN | apply below_drew1 | refine below_set ?_ GE387.out | refine below_set ?_ GE396.out) | exact HB.out)⟩⟩
      ·rw [if_neg c36] at H
       have c36b0 : (t382 != (t383 == (-1))) = false := by simpa using c36
       (try (have c36b1 : decide (t382 = (t383 == (-1))) = true := by simpa using c36))
       (try (have c36b2 : (t382 == (t383 == (-1))) = true := by simpa using c36))
       clear c36
       have H' := Aside0.mk H
       clear H
       have hnb40 := NB387_396.out
       have hnc40 := NB396_387.out
       have hcz41_0 : w27.cell? ⟨gb387, 0, none⟩ = some (.bool t382) := (blk_cell BK387.out 0).trans rfl
       have hcz41_1 : w27.cell? ⟨gb387, 1, none⟩ = some (.int .i64 t383) := (blk_cell BK387.out 1).trans rfl
       have hcz41_2 : w27.cell? ⟨gb387, 2, none⟩ = some (.int .i64 t384) := (blk_cell BK387.out 2).trans rfl
       have hcz41_3 : w27.cell? ⟨gb387, 3, none⟩ = some (.int .i64 t385) := (blk_cell BK387.out 3).trans rfl
       have hfz41_0 := blk_frozen BK387.out 0
       have hfz41_1 := blk_frozen BK387.out 1
       have hfz41_2 := blk_frozen BK387.out 2
       have hfz41_3 := blk_frozen BK387.out 3
       have hcz42_0 : w27.cell? ⟨gb396, 0, none⟩ = some (.bool false) := (blk_cell BK396.out 0).trans rfl
       have hcz42_1 : w27.cell? ⟨gb396, 1, none⟩ = some (.int .i64 0) := (blk_cell BK396.out 1).trans rfl
       have hcz42_2 : w27.cell? ⟨gb396, 2, none⟩ = some (.int .i64 0) := (blk_cell BK396.out 2).trans rfl
       have hcz42_3 : w27.cell? ⟨gb396, 3, none⟩ = some (.int .i64 0) := (blk_cell BK396.out 3).trans rfl
       have hfz42_0 := blk_frozen BK396.out 0
       have hfz42_1 := blk_frozen BK396.out 1
       have hfz42_2 := blk_frozen BK396.out 2
       have hfz42_3 := blk_frozen BK396.out 3
       go_wp2
       go_meet
       case rel => exact ⟨_, ((t382 != (t385 == 0))), zE, H', ⟨by first | omega | exact Nat.le_refl _⟩, ⟨by (with_reducible repeat (first | apply Kd.R_alloc | apply Kd.R_drewN | apply Kd.R_drew)); exact Kd.R_mono (Kd.R_far (p := ⟨gb396, 3, none⟩) (Kd.R_far (p := ⟨gb396, 2, none⟩) (Kd.R_far (p := ⟨gb396, 1, none⟩) (Kd.R_far (p := ⟨gb396, 0, none⟩) (Kd.R_types HO372.out BK396.out (by decide)) (fun _ hk => hk.2) (.bool t391)) (fun _ hk => hk.2) (.int .i64 t392)) (fun _ hk => hk.2) (.int .i64 t393)) (fun _ hk => hk.2) (.int .i64 t394)) (fun _ hk => trivial)⟩, ⟨by (with_reducible repeat (first | apply Kd.R_alloc | apply Kd.R_drewN | apply Kd.R_drew)); exact Kd.R_mono (Kd.R_far (p := ⟨gb396, 3, none⟩) (Kd.R_far (p := ⟨gb396, 2, none⟩) (Kd.R_far (p := ⟨gb396, 1, none⟩) (Kd.R_far (p := ⟨gb396, 0, none⟩) (Kd.R_types HO376.out BK396.out (by decide)) (fun _ hk => hk.2) (.bool t391)) (fun _ hk => hk.2) (.int .i64 t392)) (fun _ hk => hk.2) (.int .i64 t393)) (fun _ hk => hk.2) (.int .i64 t394)) (fun _ hk => hk.1)⟩, ⟨by (with_reducible repeat (first | apply Kd.R_alloc | apply Kd.R_drewN | apply Kd.R_drew)); exact Kd.R_mono (Kd.R_far (p := ⟨gb396, 3, none⟩) (Kd.R_far (p := ⟨gb396, 2, none⟩) (Kd.R_far (p := ⟨gb396, 1, none⟩) (Kd.R_far (p := ⟨gb396, 0, none⟩) (Kd.R_types HO378.out BK396.out (by decide)) (fun _ hk => hk.2) (.bool t391)) (fun _ hk => hk.2) (.int .i64 t392)) (fun _ hk => hk.2) (.int .i64 t393)) (fun _ hk => hk.2) (.int .i64 t394)) (fun _ hk => hk.1)⟩, ⟨by (with_reducible repeat (first | refine blk_drewN ?_ _ | refine blk_drew ?_ | refine blk_alloc ?_ _)); refine blk_far ?_ NB387_396.out _; (with_reducible repeat (first | refine blk_drewN ?_ _ | refine blk_drew ?_ | refine blk_alloc ?_ _)); refine blk_far ?_ NB387_396.out _; (with_reducible repeat (first | refine blk_drewN ?_ _ | refine blk_drew ?_ | refine blk_alloc ?_ _)); refine blk_far ?_ NB387_396.out _; (with_reducible repeat (first | refine blk_drewN ?_ _ | refine blk_drew ?_ | refine blk_alloc ?_ _)); refine blk_far ?_ NB387_396.out _; (with_reducible repeat (first | refine blk_drewN ?_ _ | refine blk_drew ?_ | refine blk_alloc ?_ _)); exact BK387.out⟩, ⟨by (with_reducible repeat (first | refine blk_drewN ?_ _ | refine blk_drew ?_ | refine blk_alloc ?_ _)); refine blk_put (cs := #[.bool t391, .int .i64 t392, .int .i64 t393, .int .i64 0]) ?_ 3 _ rfl; (with_reducible repeat (first | refine blk_drewN ?_ _ | refine blk_drew ?_ | refine blk_alloc ?_ _)); refine blk_put (cs := #[.bool t391, .int .i64 t392, .int .i64 0, .int .i64 0]) ?_ 2 _ rfl; (with_reducible repeat (first | refine blk_drewN ?_ _ | refine blk_drew ?_ | refine blk_alloc ?_ _)); refine blk_put (cs := #[.bool t391, .int .i64 0, .int .i64 0, .int .i64 0]) ?_ 1 _ rfl; (with_reducible repeat (first | refine blk_drewN ?_ _ | refine blk_drew ?_ | refine blk_alloc ?_ _)); refine blk_put (cs := #[.bool false, .int .i64 0, .int .i64 0, .int .i64 0]) ?_ 0 _ rfl; (with_reducible repeat (first | refine blk_drewN ?_ _ | refine blk_drew ?_ | refine blk_alloc ?_ _)); exact BK396.out⟩, ⟨by repeat (first | (with_reducible first | exact HB.out | apply below_alloc | apply pw_below_drewN | apply below_drew1 | refine below_set ?_ GE387.out | refine below_set ?_ GE396.out) | exact HB.out)⟩⟩
    ·rw [if_neg c31] at H
     have c31b0 : (t395 == 0) = false := beq_eq_false_iff_ne.mpr c31
     have c31b1 : (t395 != 0) = true := bne_iff_ne.mpr c31
     have H' := Aside0.mk H
     clear H
     go_wp2
     go_meet
     case rel => exact ⟨_, (true), zE, H', ⟨by first | omega | exact Nat.le_refl _⟩, ⟨by (with_reducible repeat (first | apply Kd.R_alloc | apply Kd.R_drewN | apply Kd.R_drew)); exact Kd.R_mono (Kd.R_far (p := ⟨gb396, 3, none⟩) (Kd.R_far (p := ⟨gb396, 2, none⟩) (Kd.R_far (p := ⟨gb396, 1, none⟩) (Kd.R_far (p := ⟨gb396, 0, none⟩) (Kd.R_types HO372.out BK396.out (by decide)) (fun _ hk => hk.2) (.bool t391)) (fun _ hk => hk.2) (.int .i64 t392)) (fun _ hk => hk.2) (.int .i64 t393)) (fun _ hk => hk.2) (.int .i64 t394)) (fun _ hk => trivial)⟩, ⟨by (with_reducible repeat (first | apply Kd.R_alloc | apply Kd.R_drewN | apply Kd.R_drew)); exact Kd.R_mono (Kd.R_far (p := ⟨gb396, 3, none⟩) (Kd.R_far (p := ⟨gb396, 2, none⟩) (Kd.R_far (p := ⟨gb396, 1, none⟩) (Kd.R_far (p := ⟨gb396, 0, none⟩) (Kd.R_types HO376.out BK396.out (by decide)) (fun _ hk => hk.2) (.bool t391)) (fun _ hk => hk.2) (.int .i64 t392)) (fun _ hk => hk.2) (.int .i64 t393)) (fun _ hk => hk.2) (.int .i64 t394)) (fun _ hk => hk.1)⟩, ⟨by (with_reducible repeat (first | apply Kd.R_alloc | apply Kd.R_drewN | apply Kd.R_drew)); exact Kd.R_mono (Kd.R_far (p := ⟨gb396, 3, none⟩) (Kd.R_far (p := ⟨gb396, 2, none⟩) (Kd.R_far (p := ⟨gb396, 1, none⟩) (Kd.R_far (p := ⟨gb396, 0, none⟩) (Kd.R_types HO378.out BK396.out (by decide)) (fun _ hk => hk.2) (.bool t391)) (fun _ hk => hk.2) (.int .i64 t392)) (fun _ hk => hk.2) (.int .i64 t393)) (fun _ hk => hk.2) (.int .i64 t394)) (fun _ hk => hk.1)⟩, ⟨by (with_reducible repeat (first | refine blk_drewN ?_ _ | refine blk_drew ?_ | refine blk_alloc ?_ _)); refine blk_far ?_ NB387_396.out _; (with_reducible repeat (first | refine blk_drewN ?_ _ | refine blk_drew ?_ | refine blk_alloc ?_ _)); refine blk_far ?_ NB387_396.out _; (with_reducible repeat (first | refine blk_drewN ?_ _ | refine blk_drew ?_ | refine blk_alloc ?_ _)); refine blk_far ?_ NB387_396.out _; (with_reducible repeat (first | refine blk_drewN ?_ _ | refine blk_drew ?_ | refine blk_alloc ?_ _)); refine blk_far ?_ NB387_396.out _; (with_reducible repeat (first | refine blk_drewN ?_ _ | refine blk_drew ?_ | refine blk_alloc ?_ _)); exact BK387.out⟩, ⟨by (with_reducible repeat (first | refine blk_drewN ?_ _ | refine blk_drew ?_ | refine blk_alloc ?_ _)); refine blk_put (cs := #[.bool t391, .int .i64 t392, .int .i64 t393, .int .i64 0]) ?_ 3 _ rfl; (with_reducible repeat (first | refine blk_drewN ?_ _ | refine blk_drew ?_ | refine blk_alloc ?_ _)); refine blk_put (cs := #[.bool t391, .int .i64 t392, .int .i64 0, .int .i64 0]) ?_ 2 _ rfl; (with_reducible repeat (first | refine blk_drewN ?_ _ | refine blk_drew ?_ | refine blk_alloc ?_ _)); refine blk_put (cs := #[.bool t391, .int .i64 0, .int .i64 0, .int .i64 0]) ?_ 1 _ rfl; (with_reducible repeat (first | refine blk_drewN ?_ _ | refine blk_drew ?_ | refine blk_alloc ?_ _)); refine blk_put (cs := #[.bool false, .int .i64 0, .int .i64 0, .int .i64 0]) ?_ 0 _ rfl; (with_reducible repeat (first | refine blk_drewN ?_ _ | refine blk_drew ?_ | refine blk_alloc ?_ _)); exact BK396.out⟩, ⟨by repeat (first | (with_reducible first | exact HB.out | apply below_alloc | apply pw_below_drewN | apply below_drew1 | refine below_set ?_ GE387.out | refine below_set ?_ GE396.out) | exact HB.out)⟩⟩
   ·rw [if_neg c30] at H
    have c30b0 : (t386 == 0) = false := beq_eq_false_iff_ne.mpr c30
    have c30b1 : (t386 != 0) = true := bne_iff_ne.mpr c30
    (first | rw [c30b0] | (simp only [i64_w, i32_w]; rw [c30b0]) | skip)
    have H' := Aside0.mk H
    clear H
    go_wp2
    go_meet
    case rel => exact ⟨_, (true), zE, H', ⟨by first | omega | exact Nat.le_refl _⟩, ⟨by (with_reducible repeat (first | apply Kd.R_alloc | apply Kd.R_drewN | apply Kd.R_drew)); exact Kd.R_mono (Kd.R_far (p := ⟨gb396, 3, none⟩) (Kd.R_far (p := ⟨gb396, 2, none⟩) (Kd.R_far (p := ⟨gb396, 1, none⟩) (Kd.R_far (p := ⟨gb396, 0, none⟩) (Kd.R_types HO372.out BK396.out (by decide)) (fun _ hk => hk.2) (.bool t391)) (fun _ hk => hk.2) (.int .i64 t392)) (fun _ hk => hk.2) (.int .i64 t393)) (fun _ hk => hk.2) (.int .i64 t394)) (fun _ hk => trivial)⟩, ⟨by (with_reducible repeat (first | apply Kd.R_alloc | apply Kd.R_drewN | apply Kd.R_drew)); exact Kd.R_mono (Kd.R_far (p := ⟨gb396, 3, none⟩) (Kd.R_far (p := ⟨gb396, 2, none⟩) (Kd.R_far (p := ⟨gb396, 1, none⟩) (Kd.R_far (p := ⟨gb396, 0, none⟩) (Kd.R_types HO376.out BK396.out (by decide)) (fun _ hk => hk.2) (.bool t391)) (fun _ hk => hk.2) (.int .i64 t392)) (fun _ hk => hk.2) (.int .i64 t393)) (fun _ hk => hk.2) (.int .i64 t394)) (fun _ hk => hk.1)⟩, ⟨by (with_reducible repeat (first | apply Kd.R_alloc | apply Kd.R_drewN | apply Kd.R_drew)); exact Kd.R_mono (Kd.R_far (p := ⟨gb396, 3, none⟩) (Kd.R_far (p := ⟨gb396, 2, none⟩) (Kd.R_far (p := ⟨gb396, 1, none⟩) (Kd.R_far (p := ⟨gb396, 0, none⟩) (Kd.R_types HO378.out BK396.out (by decide)) (fun _ hk => hk.2) (.bool t391)) (fun _ hk => hk.2) (.int .i64 t392)) (fun _ hk => hk.2) (.int .i64 t393)) (fun _ hk => hk.2) (.int .i64 t394)) (fun _ hk => hk.1)⟩, ⟨by (with_reducible repeat (first | refine blk_drewN ?_ _ | refine blk_drew ?_ | refine blk_alloc ?_ _)); refine blk_far ?_ NB387_396.out _; (with_reducible repeat (first | refine blk_drewN ?_ _ | refine blk_drew ?_ | refine blk_alloc ?_ _)); refine blk_far ?_ NB387_396.out _; (with_reducible repeat (first | refine blk_drewN ?_ _ | refine blk_drew ?_ | refine blk_alloc ?_ _)); refine blk_far ?_ NB387_396.out _; (with_reducible repeat (first | refine blk_drewN ?_ _ | refine blk_drew ?_ | refine blk_alloc ?_ _)); refine blk_far ?_ NB387_396.out _; (with_reducible repeat (first | refine blk_drewN ?_ _ | refine blk_drew ?_ | refine blk_alloc ?_ _)); exact BK387.out⟩, ⟨by (with_reducible repeat (first | refine blk_drewN ?_ _ | refine blk_drew ?_ | refine blk_alloc ?_ _)); refine blk_put (cs := #[.bool t391, .int .i64 t392, .int .i64 t393, .int .i64 0]) ?_ 3 _ rfl; (with_reducible repeat (first | refine blk_drewN ?_ _ | refine blk_drew ?_ | refine blk_alloc ?_ _)); refine blk_put (cs := #[.bool t391, .int .i64 t392, .int .i64 0, .int .i64 0]) ?_ 2 _ rfl; (with_reducible repeat (first | refine blk_drewN ?_ _ | refine blk_drew ?_ | refine blk_alloc ?_ _)); refine blk_put (cs := #[.bool t391, .int .i64 0, .int .i64 0, .int .i64 0]) ?_ 1 _ rfl; (with_reducible repeat (first | refine blk_drewN ?_ _ | refine blk_drew ?_ | refine blk_alloc ?_ _)); refine blk_put (cs := #[.bool false, .int .i64 0, .int .i64 0, .int .i64 0]) ?_ 0 _ rfl; (with_reducible repeat (first | refine blk_drewN ?_ _ | refine blk_drew ?_ | refine blk_alloc ?_ _)); exact BK396.out⟩, ⟨by repeat (first | (with_reducible first | exact HB.out | apply below_alloc | apply pw_below_drewN | apply below_drew1 | refine below_set ?_ GE387.out | refine below_set ?_ GE396.out) | exact HB.out)⟩⟩
  case rest => as_aux_lemma =>
   clear HC12
   (try clear c1); (try clear c2); (try clear p2); (try clear c3); (try clear c4); (try clear c5); (try clear c6); (try clear c10); (try clear c11); (try clear c12); (try clear c16); (try clear c18); (try clear c28); (try clear c30); (try clear c30b0); (try clear c30b1); (try clear c31); (try clear c31b0); (try clear c31b1); (try clear c32); (try clear c32b0); (try clear c33); (try clear c36); (try clear c36b0); (try clear c36b1); (try clear c36b2); (try clear c37); (try clear c40); (try clear hcz23_0 hcz23_1 hcz23_2 hcz23_3); (try clear hcz29_0 hcz29_1 hcz29_2 hcz29_3); (try clear hcz34_0 hcz34_1 hcz34_2 hcz34_3); (try clear hcz35_0 hcz35_1 hcz35_2 hcz35_3); (try clear hcz38_0 hcz38_1 hcz38_2 hcz38_3); (try clear hcz39_0 hcz39_1 hcz39_2 hcz39_3); (try clear hcz41_0 hcz41_1 hcz41_2 hcz41_3); (try clear hcz42_0 hcz42_1 hcz42_2 hcz42_3); (try clear hfz23_0 hfz23_1 hfz23_2 hfz23_3); (try clear hfz29_0 hfz29_1 hfz29_2 hfz29_3); (try clear hfz34_0 hfz34_1 hfz34_2 hfz34_3); (try clear hfz35_0 hfz35_1 hfz35_2 hfz35_3); (try clear hfz38_0 hfz38_1 hfz38_2 hfz38_3); (try clear hfz39_0 hfz39_1 hfz39_2 hfz39_3); (try clear hfz41_0 hfz41_1 hfz41_2 hfz41_3); (try clear hfz42_0 hfz42_1 hfz42_2 hfz42_3)
   obtain ⟨kq, x73_11, rfl, HA, HJ11, HO_7, HO_8, HO_9, BK387, BK396, HB⟩ := hcut
   cases kq with
   | zero => exact absurd HA.out (by simp [airchecklaw38_JudgeReasons.j0])
   | succ kj11 =>
    have H := HA.out
    clear HA
    simp only [airchecklaw38_JudgeReasons.j0] at H
    by_cases c43 : x73_11 = true
    ·subst c43
     have H1 : (some false) = some r := by rw [if_pos rfl] at H; exact H
     exact absurd (Option.some.inj H1) (by rw [hr0.out]; exact Bool.false_ne_true)
    ·replace c43 := Bool.eq_false_iff.mpr c43
     subst c43
     rw [if_neg (show ¬ (false = true) by decide)] at H
     have H' := Aside0.mk H
     clear H
     go_wp2
     go_loopg [14, 15, 16, 17] kj11 (fun kq v14 v15 v16 v17 w' => ∃ (x14_2 : Int) (x15_2 : Int) (x16_2 : Int) (x17_2 : Int), v14 = .int .i64 x14_2 ∧ v15 = .int .i64 x15_2 ∧ v16 = .int .i64 x16_2 ∧ v17 = .int .i64 x17_2 ∧ Aside0 (airchecklaw38_JudgeReasons.l0 kq t370 t373 t374 x14_2 x15_2 x16_2 x17_2 t382 t383 t384 t385 = some r) ∧ Aside0 (kq ≤ kj11) ∧ Aside0 (Kd.R k74 74 w' w.heap.size (fun _ => True) (.slice Ao15 t370.length co15) t370) ∧ Aside0 (Kd.R k54 54 w' w.heap.size (fun k_ => some k_ ≠ ((.slice Ao19 t374.length co19) : Value).ownBlock) (.slice Ao18 t373.length co18) t373) ∧ Aside0 (Kd.R k54 54 w' w.heap.size (fun k_ => some k_ ≠ ((.slice Ao18 t373.length co18) : Value).ownBlock) (.slice Ao19 t374.length co19) t374) ∧ Aside0 (w'.heap[gb387]? = some (.cells #[.bool t382, .int .i64 t383, .int .i64 t384, .int .i64 t385] 37 (0, 0))) ∧ Aside0 (w'.heap[gb396]? = some (.cells #[.bool t391, .int .i64 t392, .int .i64 t393, .int .i64 t394] 37 (0, 0))) ∧ Aside0 (Below w.heap.size w w'))
     case atStart => exact ⟨(0), (0), ((-1)), (0), zE, zE, zE, zE, H', ⟨Nat.le_refl _⟩, ⟨zR HO_7.out⟩, ⟨zR HO_8.out⟩, ⟨zR HO_9.out⟩, ⟨zB BK387.out⟩, ⟨zB BK396.out⟩, ⟨by repeat (first | (with_reducible first | exact HB.out | apply below_alloc | apply pw_below_drewN | apply below_drew1 | refine below_set ?_ GE387.out | refine below_set ?_ GE396.out) | exact HB.out)⟩⟩
     case round => as_aux_lemma =>
      clear H'
      (try clear c1); (try clear c2); (try clear p2); (try clear c3); (try clear c4); (try clear c5); (try clear c6); (try clear c10); (try clear c11); (try clear c12); (try clear c16); (try clear c18); (try clear c28); (try clear c30); (try clear c30b0); (try clear c30b1); (try clear c31); (try clear c31b0); (try clear c31b1); (try clear c32); (try clear c32b0); (try clear c33); (try clear c36); (try clear c36b0); (try clear c36b1); (try clear c36b2); (try clear c37); (try clear c40); (try clear c43); (try clear hcz23_0 hcz23_1 hcz23_2 hcz23_3); (try clear hcz29_0 hcz29_1 hcz29_2 hcz29_3); (try clear hcz34_0 hcz34_1 hcz34_2 hcz34_3); (try clear hcz35_0 hcz35_1 hcz35_2 hcz35_3); (try clear hcz38_0 hcz38_1 hcz38_2 hcz38_3); (try clear hcz39_0 hcz39_1 hcz39_2 hcz39_3); (try clear hcz41_0 hcz41_1 hcz41_2 hcz41_3); (try clear hcz42_0 hcz42_1 hcz42_2 hcz42_3); (try clear hfz23_0 hfz23_1 hfz23_2 hfz23_3); (try clear hfz29_0 hfz29_1 hfz29_2 hfz29_3); (try clear hfz34_0 hfz34_1 hfz34_2 hfz34_3); (try clear hfz35_0 hfz35_1 hfz35_2 hfz35_3); (try clear hfz38_0 hfz38_1 hfz38_2 hfz38_3); (try clear hfz39_0 hfz39_1 hfz39_2 hfz39_3); (try clear hfz41_0 hfz41_1 hfz41_2 hfz41_3); (try clear hfz42_0 hfz42_1 hfz42_2 hfz42_3)
      obtain ⟨x14_2, x15_2, x16_2, x17_2, rfl, rfl, rfl, rfl, HA, HK2, HO_7, HO_8, HO_9, BK387, BK396, HB⟩ := hrel
      cases gk with
      | zero => exact absurd HA.out (by simp [airchecklaw38_JudgeReasons.l0])
      | succ k2 =>
       have H := HA.out
       clear HA
       simp only [airchecklaw38_JudgeReasons.l0] at H
       by_cases c44 : x17_2 < (t373.length : Int)
       ·rw [if_pos c44] at H
        have c44b0 : decide (x17_2 < (t373.length : Int)) = true := decide_eq_true c44
        clear c44
        replace H := Option.bind_eq_some_iff.mp H
        obtain ⟨⟨t397, t398⟩, A450, H⟩ := H
        replace H : (if t398 = 0 then (if 0 ≤ x17_2 then (if x17_2 < (t374.length : Int) then (if (!(((rd_T54 t373 x17_2).f0) == ((rd_T54 t374 x17_2).f0)) || (!(((rd_T54 t373 x17_2).f1) == ((rd_T54 t374 x17_2).f1)))) = true then (airchecklaw38_JudgeReasons.j2 k2 t370 t373 t374 x14_2 x15_2 x16_2 x17_2 t397 true t382 t383 t384 t385) else (if ((rd_T54 t373 x17_2).f0) = 1 then (airchecklaw38_JudgeReasons.j2 k2 t370 t373 t374 x14_2 x15_2 x16_2 x17_2 t397 false t382 t383 t384 t385) else (airchecklaw38_JudgeReasons.j2 k2 t370 t373 t374 x14_2 x15_2 x16_2 x17_2 t397 (((rd_T54 t373 x17_2).f0) != 2) t382 t383 t384 t385))) else (none)) else (none)) else (some false)) = some r := H
        have A45 := Aside0.mk A450
        clear A450
        by_cases c46 : t398 = 0
        ·rw [if_pos c46] at H
         have c46b0 : (t398 == 0) = true := beq_iff_eq.mpr c46
         have c46b1 : (t398 != 0) = false := bne_eq_false_iff_eq.mpr c46
         clear c46
         have HC47 := Aside0.mk H
         clear H
         go_upto_region 18 with (first | ((with_reducible refine gate_callee (f := 35) rfl ?_); refine goesL_ (some 83) rfl rfl Tryd.func35 (by kernel_rfl) rfl #[.slice Ao15 t370.length co15, .int .i64 x17_2] rfl (by (try simp only [List.map_toArray, List.map_cons, List.map_nil]); first | done | rfl | (simp only [List.length_drop, List.length_take]; rfl)) ?_; (with_reducible refine (timeline_At.calls _ _ t370 x17_2 t397 t398 _ ?side1 ?side2 A45.out).mono ?_); (case side1 => exact zC (Kd.R_reads' HO_7.out).2.2); (case side2 => exact (Kd.R_reads' HO_7.out).2.1); rintro e w48 ⟨rfl, hb⟩; refine ⟨_, rfl, ?_⟩; have n0_ := Aside0.mk (Kd.R_below (zR HO_7.out) hb); have n1_ := Aside0.mk (Kd.R_below (zR HO_8.out) hb); have n2_ := Aside0.mk (Kd.R_below (zR HO_9.out) hb); have n3_ := Aside0.mk (blk_below (g := gb387) (o := .cells #[.bool t382, .int .i64 t383, .int .i64 t384, .int .i64 t385] 37 (0, 0)) (zB BK387.out) hb); have n4_ := Aside0.mk (blk_below (g := gb396) (o := .cells #[.bool t391, .int .i64 t392, .int .i64 t393, .int .i64 t394] 37 (0, 0)) (zB BK396.out) hb); have n5_ := Aside0.mk (below_step (by repeat (first | (with_reducible first | exact HB.out | apply below_alloc | apply pw_below_drewN | apply below_drew1 | refine below_set ?_ GE387.out | refine below_set ?_ GE396.out) | exact HB.out)) hb); clear HO_7; clear HO_8; clear HO_9; clear BK387; clear BK396; clear HB; have HO_7 := n0_; have HO_8 := n1_; have HO_9 := n2_; have BK387 := n3_; have BK396 := n4_; have HB := n5_; clear n0_ n1_ n2_ n3_ n4_ n5_; (try clear hb); (try clear hb2); (try clear hk); (try clear hi)))
         (try simp only [Act.put, List.setIfInBounds_toArray, List.set_cons_zero, List.set_cons_succ])
         go_cut [112] (fun v112 wc => ∃ (kq : Nat) (x112_46 : Bool), v112 = .bool x112_46 ∧ Aside0 (airchecklaw38_JudgeReasons.j2 kq t370 t373 t374 x14_2 x15_2 x16_2 x17_2 t397 x112_46 t382 t383 t384 t385 = some r) ∧ Aside0 (kq ≤ k2) ∧ Aside0 (Kd.R k74 74 wc w.heap.size (fun _ => True) (.slice Ao15 t370.length co15) t370) ∧ Aside0 (Kd.R k54 54 wc w.heap.size (fun k_ => some k_ ≠ ((.slice Ao19 t374.length co19) : Value).ownBlock) (.slice Ao18 t373.length co18) t373) ∧ Aside0 (Kd.R k54 54 wc w.heap.size (fun k_ => some k_ ≠ ((.slice Ao18 t373.length co18) : Value).ownBlock) (.slice Ao19 t374.length co19) t374) ∧ Aside0 (wc.heap[gb387]? = some (.cells #[.bool t382, .int .i64 t383, .int .i64 t384, .int .i64 t385] 37 (0, 0))) ∧ Aside0 (wc.heap[gb396]? = some (.cells #[.bool t391, .int .i64 t392, .int .i64 t393, .int .i64 t394] 37 (0, 0))) ∧ Aside0 (Below w.heap.size w wc))
         case first =>
          have H := HC47.out
          clear HC47
          by_cases c49 : 0 ≤ x17_2
          ·rw [if_pos c49] at H
           have c49b0 : decide (0 ≤ x17_2) = true := decide_eq_true c49
           clear c49
           (first | rw [c49b0] | (simp only [i64_w, i32_w]; rw [c49b0]) | skip)
           by_cases c50 : x17_2 < (t374.length : Int)
           ·rw [if_pos c50] at H
            have c50b0 : decide (x17_2 < (t374.length : Int)) = true := decide_eq_true c50
            clear c50
            by_cases c51 : (!(((rd_T54 t373 x17_2).f0) == ((rd_T54 t374 x17_2).f0)) || (!(((rd_T54 t373 x17_2).f1) == ((rd_T54 t374 x17_2).f1)))) = true
            ·rw [if_pos c51] at H
             have c51b0 : (!(((rd_T54 t373 x17_2).f0) == ((rd_T54 t374 x17_2).f0)) || (!(((rd_T54 t373 x17_2).f1) == ((rd_T54 t374 x17_2).f1)))) = true := c51
             clear c51
             have H' := Aside0.mk H
             clear H
             try go_wp2
             have n0_ := Aside0.mk (Kd.R_drew HO_7.out)
             have n1_ := Aside0.mk (Kd.R_drew HO_8.out)
             have n2_ := Aside0.mk (Kd.R_drew HO_9.out)
             have n3_ := Aside0.mk (blk_drew BK387.out)
             have n4_ := Aside0.mk (blk_drew BK396.out)
             have n5_ := Aside0.mk (below_drew1 HB.out)
             clear HO_7
             clear HO_8
             clear HO_9
             clear BK387
             clear BK396
             clear HB
             have HO_7 := n0_
             have HO_8 := n1_
             have HO_9 := n2_
             have BK387 := n3_
             have BK396 := n4_
             have HB := n5_
             clear n0_ n1_ n2_ n3_ n4_ n5_
             have p399 : 0 ≤ (x17_2 : Int) := of_decide_eq_true zA
             have q399 : x17_2 < (t373.length : Int) := of_decide_eq_true zA
             obtain ⟨ad399, e399, hx399_0, hx399_1⟩ := at_T54 (Kd.R_reads' HO_8.out).2.2 x17_2 p399 q399
             cases e399
             replace p399 := eq_true p399
             replace q399 := eq_true q399
             have p400 : 0 ≤ (x17_2 : Int) := of_decide_eq_true zA
             have q400 : x17_2 < (t374.length : Int) := of_decide_eq_true zA
             obtain ⟨ad400, e400, hx400_0, hx400_1⟩ := at_T54 (Kd.R_reads' HO_9.out).2.2 x17_2 p400 q400
             cases e400
             replace p400 := eq_true p400
             replace q400 := eq_true q400
             refine start_ (n := 25) (S := fun w' => w'.cell? (ad399.add ((x17_2).toNat * 2)) = some (.int .i64 ((rd_T54 t373 x17_2).f0)) ∧ w'.cell? ⟨(ad399.add ((x17_2).toNat * 2)).block, (ad399.add ((x17_2).toNat * 2)).off + 1, none⟩ = some (.int .i64 ((rd_T54 t373 x17_2).f1)) ∧ w'.cell? (ad400.add ((x17_2).toNat * 2)) = some (.int .i64 ((rd_T54 t374 x17_2).f0)) ∧ w'.cell? ⟨(ad400.add ((x17_2).toNat * 2)).block, (ad400.add ((x17_2).toNat * 2)).off + 1, none⟩ = some (.int .i64 ((rd_T54 t374 x17_2).f1))) (ds := []) (bz 25 0) (by kernel_rfl) rfl rfl ⟨hx399_0, hx399_1, hx400_0, hx400_1⟩ (fun hHeld => ?_); refine with_tabW airchecklaw38_JudgeReasons.tab18 airchecklaw38_JudgeReasons.bits18 (fun HT_ HW_ => ?_)
             generalize w48.drew = w52 at HO_7 HO_8 HO_9 BK387 BK396 HB hx399_0 hx399_1 hx400_0 hx400_1 hHeld ⊢
             refine zP 0 (some 88) (bz 25 1) HT_ ?_
             refine zP 1 (some 89) (bz 25 3) HT_ ?_
             refine zP 2 (some 90) (bz 25 7) HT_ ?_
             refine zP 4 (some 92) (bz 25 23) HT_ ?_
             refine zP 5 (some 93) (bz 25 55) HT_ ?_
             refine zP 6 (some 94) (bz 25 119) HT_ ?_
             refine zT 3 (some 91) (bz 25 127) HT_ HW_ hHeld (v := ?_) ?_ ?_
             rotate_left
             ·rintro w' ⟨s0, s1, s2, s3⟩; go_simp; with_reducible rfl
             refine zT 7 (some 95) (bz 25 255) HT_ HW_ hHeld (v := ?_) ?_ ?_
             rotate_left
             ·rintro w' ⟨s0, s1, s2, s3⟩; go_simp; with_reducible rfl
             refine zP 8 (some 96) (bz 25 511) HT_ ?_
             refine zP 9 (some 97) (bz 25 1023) HT_ ?_
             refine zU 10 (some 98) (bz 25 2047) HT_ ?_
             refine zU 11 (some 99) (bz 25 4095) HT_ ?_
             refine zU 12 (some 100) (bz 25 8191) HT_ ?_
             refine zU 13 (some 101) (bz 25 16383) HT_ ?_
             refine zU 14 (some 102) (bz 25 32767) HT_ ?_
             refine zU 15 (some 103) (bz 25 65535) HT_ ?_
             refine zU 16 (some 104) (bz 25 131071) HT_ ?_
             refine zU 17 (some 105) (bz 25 262143) HT_ ?_
             refine zU 18 (some 106) (bz 25 524287) HT_ ?_
             refine zU 19 (some 107) (bz 25 1048575) HT_ ?_
             refine zU 20 (some 108) (bz 25 2097151) HT_ ?_
             refine zU 21 (some 109) (bz 25 4194303) HT_ ?_
             refine zU 22 (some 110) (bz 25 8388607) HT_ ?_
             refine zU 23 (some 111) (bz 25 16777215) HT_ ?_
             refine zP 24 (some 112) (bz 25 33554431) HT_ ?_
             refine done_ (done_of HT_.out (by kernel_rfl)) ?_
             try go_wp2
             go_meet
             case rel => exact ⟨_, (true), zE, H', ⟨by have := HJ11.out; have := HK2.out; first | omega | exact Nat.le_refl _⟩, ⟨zR HO_7.out⟩, ⟨zR HO_8.out⟩, ⟨zR HO_9.out⟩, ⟨zB BK387.out⟩, ⟨zB BK396.out⟩, ⟨by repeat (first | (with_reducible first | exact HB.out | apply below_alloc | apply pw_below_drewN | apply below_drew1 | refine below_set ?_ GE387.out | refine below_set ?_ GE396.out) | exact HB.out)⟩⟩
            ·rw [if_neg c51] at H
             have c51b0 : (!(((rd_T54 t373 x17_2).f0) == ((rd_T54 t374 x17_2).f0)) || (!(((rd_T54 t373 x17_2).f1) == ((rd_T54 t374 x17_2).f1)))) = false := by simpa using c51
             clear c51
             by_cases c53 : ((rd_T54 t373 x17_2).f0) = 1
             ·rw [if_pos c53] at H
              have c53b0 : (((rd_T54 t373 x17_2).f0) == 1) = true := beq_iff_eq.mpr c53
              have c53b1 : (((rd_T54 t373 x17_2).f0) != 1) = false := bne_eq_false_iff_eq.mpr c53
              clear c53
              have H' := Aside0.mk H
              clear H
              try go_wp2
              have n0_ := Aside0.mk (Kd.R_drew HO_7.out)
              have n1_ := Aside0.mk (Kd.R_drew HO_8.out)
              have n2_ := Aside0.mk (Kd.R_drew HO_9.out)
              have n3_ := Aside0.mk (blk_drew BK387.out)
              have n4_ := Aside0.mk (blk_drew BK396.out)
              have n5_ := Aside0.mk (below_drew1 HB.out)
              clear HO_7
              clear HO_8
              clear HO_9
              clear BK387
              clear BK396
              clear HB
              have HO_7 := n0_
              have HO_8 := n1_
              have HO_9 := n2_
              have BK387 := n3_
              have BK396 := n4_
              have HB := n5_
              clear n0_ n1_ n2_ n3_ n4_ n5_
              have p399 : 0 ≤ (x17_2 : Int) := of_decide_eq_true zA
              have q399 : x17_2 < (t373.length : Int) := of_decide_eq_true zA
              obtain ⟨ad399, e399, hx399_0, hx399_1⟩ := at_T54 (Kd.R_reads' HO_8.out).2.2 x17_2 p399 q399
              cases e399
              replace p399 := eq_true p399
              replace q399 := eq_true q399
              have p400 : 0 ≤ (x17_2 : Int) := of_decide_eq_true zA
              have q400 : x17_2 < (t374.length : Int) := of_decide_eq_true zA
              obtain ⟨ad400, e400, hx400_0, hx400_1⟩ := at_T54 (Kd.R_reads' HO_9.out).2.2 x17_2 p400 q400
              cases e400
              replace p400 := eq_true p400
              replace q400 := eq_true q400
              have p401 : 0 ≤ (x17_2 : Int) := of_decide_eq_true zA
              have q401 : x17_2 < (t373.length : Int) := of_decide_eq_true zA
              obtain ⟨ad401, e401, hx401_0, hx401_1⟩ := at_T54 (Kd.R_reads' HO_8.out).2.2 x17_2 p401 q401
              obtain rfl : ad399 = ad401 := (by injection e401)
              replace p401 := eq_true p401
              replace q401 := eq_true q401
              refine start_ (n := 25) (S := fun w' => w'.cell? (ad399.add ((x17_2).toNat * 2)) = some (.int .i64 ((rd_T54 t373 x17_2).f0)) ∧ w'.cell? ⟨(ad399.add ((x17_2).toNat * 2)).block, (ad399.add ((x17_2).toNat * 2)).off + 1, none⟩ = some (.int .i64 ((rd_T54 t373 x17_2).f1)) ∧ w'.cell? (ad400.add ((x17_2).toNat * 2)) = some (.int .i64 ((rd_T54 t374 x17_2).f0)) ∧ w'.cell? ⟨(ad400.add ((x17_2).toNat * 2)).block, (ad400.add ((x17_2).toNat * 2)).off + 1, none⟩ = some (.int .i64 ((rd_T54 t374 x17_2).f1)) ∧ w'.cell? (ad399.add ((x17_2).toNat * 2)) = some (.int .i64 ((rd_T54 t373 x17_2).f0)) ∧ w'.cell? ⟨(ad399.add ((x17_2).toNat * 2)).block, (ad399.add ((x17_2).toNat * 2)).off + 1, none⟩ = some (.int .i64 ((rd_T54 t373 x17_2).f1))) (ds := []) (bz 25 0) (by kernel_rfl) rfl rfl ⟨hx399_0, hx399_1, hx400_0, hx400_1, hx401_0, hx401_1⟩ (fun hHeld => ?_); refine with_tabW airchecklaw38_JudgeReasons.tab18 airchecklaw38_JudgeReasons.bits18 (fun HT_ HW_ => ?_)
              generalize w48.drew = w54 at HO_7 HO_8 HO_9 BK387 BK396 HB hx399_0 hx399_1 hx400_0 hx400_1 hx401_0 hx401_1 hHeld ⊢
              refine zP 0 (some 88) (bz 25 1) HT_ ?_
              refine zP 1 (some 89) (bz 25 3) HT_ ?_
              refine zP 2 (some 90) (bz 25 7) HT_ ?_
              refine zP 4 (some 92) (bz 25 23) HT_ ?_
              refine zP 5 (some 93) (bz 25 55) HT_ ?_
              refine zP 6 (some 94) (bz 25 119) HT_ ?_
              refine zT 3 (some 91) (bz 25 127) HT_ HW_ hHeld (v := ?_) ?_ ?_
              rotate_left
              ·rintro w' ⟨s0, s1, s2, s3, s4, s5⟩; go_simp; with_reducible rfl
              refine zT 7 (some 95) (bz 25 255) HT_ HW_ hHeld (v := ?_) ?_ ?_
              rotate_left
              ·rintro w' ⟨s0, s1, s2, s3, s4, s5⟩; go_simp; with_reducible rfl
              refine zP 8 (some 96) (bz 25 511) HT_ ?_
              refine zP 9 (some 97) (bz 25 1023) HT_ ?_
              refine zP 10 (some 98) (bz 25 2047) HT_ ?_
              refine zP 11 (some 99) (bz 25 4095) HT_ ?_
              refine zP 12 (some 100) (bz 25 8191) HT_ ?_
              refine zP 13 (some 101) (bz 25 16383) HT_ ?_
              refine zT 14 (some 102) (bz 25 32767) HT_ HW_ hHeld (v := ?_) ?_ ?_
              rotate_left
              ·rintro w' ⟨s0, s1, s2, s3, s4, s5⟩; go_simp; with_reducible rfl
              refine zP 15 (some 103) (bz 25 65535) HT_ ?_
              refine zP 16 (some 104) (bz 25 131071) HT_ ?_
              refine zU 17 (some 105) (bz 25 262143) HT_ ?_
              refine zU 18 (some 106) (bz 25 524287) HT_ ?_
              refine zU 19 (some 107) (bz 25 1048575) HT_ ?_
              refine zU 20 (some 108) (bz 25 2097151) HT_ ?_
              refine zU 21 (some 109) (bz 25 4194303) HT_ ?_
              refine zU 22 (some 110) (bz 25 8388607) HT_ ?_
              refine zP 23 (some 111) (bz 25 16777215) HT_ ?_
              refine zP 24 (some 112) (bz 25 33554431) HT_ ?_
              refine done_ (done_of HT_.out (by kernel_rfl)) ?_
              try go_wp2
              go_meet
              case rel => exact ⟨_, (false), zE, H', ⟨by have := HJ11.out; have := HK2.out; first | omega | exact Nat.le_refl _⟩, ⟨zR HO_7.out⟩, ⟨zR HO_8.out⟩, ⟨zR HO_9.out⟩, ⟨zB BK387.out⟩, ⟨zB BK396.out⟩, ⟨by repeat (first | (with_reducible first | exact HB.out | apply below_alloc | apply pw_below_drewN | apply below_drew1 | refine below_set ?_ GE387.out | refine below_set ?_ GE396.out) | exact HB.out)⟩⟩
             ·rw [if_neg c53] at H
              have c53b0 : (((rd_T54 t373 x17_2).f0) == 1) = false := beq_eq_false_iff_ne.mpr c53
              have c53b1 : (((rd_T54 t373 x17_2).f0) != 1) = true := bne_iff_ne.mpr c53
              have H' := Aside0.mk H
              clear H
              try go_wp2
              have n0_ := Aside0.mk (Kd.R_drew HO_7.out)
              have n1_ := Aside0.mk (Kd.R_drew HO_8.out)
              have n2_ := Aside0.mk (Kd.R_drew HO_9.out)
              have n3_ := Aside0.mk (blk_drew BK387.out)
              have n4_ := Aside0.mk (blk_drew BK396.out)
              have n5_ := Aside0.mk (below_drew1 HB.out)
              clear HO_7
              clear HO_8
              clear HO_9
              clear BK387
              clear BK396
              clear HB
              have HO_7 := n0_
              have HO_8 := n1_
              have HO_9 := n2_
              have BK387 := n3_
              have BK396 := n4_
              have HB := n5_
              clear n0_ n1_ n2_ n3_ n4_ n5_
              have p399 : 0 ≤ (x17_2 : Int) := of_decide_eq_true zA
              have q399 : x17_2 < (t373.length : Int) := of_decide_eq_true zA
              obtain ⟨ad399, e399, hx399_0, hx399_1⟩ := at_T54 (Kd.R_reads' HO_8.out).2.2 x17_2 p399 q399
              cases e399
              replace p399 := eq_true p399
              replace q399 := eq_true q399
              have p400 : 0 ≤ (x17_2 : Int) := of_decide_eq_true zA
              have q400 : x17_2 < (t374.length : Int) := of_decide_eq_true zA
              obtain ⟨ad400, e400, hx400_0, hx400_1⟩ := at_T54 (Kd.R_reads' HO_9.out).2.2 x17_2 p400 q400
              cases e400
              replace p400 := eq_true p400
              replace q400 := eq_true q400
              have p401 : 0 ≤ (x17_2 : Int) := of_decide_eq_true zA
              have q401 : x17_2 < (t373.length : Int) := of_decide_eq_true zA
              obtain ⟨ad401, e401, hx401_0, hx401_1⟩ := at_T54 (Kd.R_reads' HO_8.out).2.2 x17_2 p401 q401
              obtain rfl : ad399 = ad401 := (by injection e401)
              replace p401 := eq_true p401
              replace q401 := eq_true q401
              have p402 : 0 ≤ (x17_2 : Int) := of_decide_eq_true zA
              have q402 : x17_2 < (t373.length : Int) := of_decide_eq_true zA
              obtain ⟨ad402, e402, hx402_0, hx402_1⟩ := at_T54 (Kd.R_reads' HO_8.out).2.2 x17_2 p402 q402
              obtain rfl : ad399 = ad402 := (by injection e402)
              replace p402 := eq_true p402
              replace q402 := eq_true q402
              refine start_ (n := 25) (S := fun w' => w'.cell? (ad399.add ((x17_2).toNat * 2)) = some (.int .i64 ((rd_T54 t373 x17_2).f0)) ∧ w'.cell? ⟨(ad399.add ((x17_2).toNat * 2)).block, (ad399.add ((x17_2).toNat * 2)).off + 1, none⟩ = some (.int .i64 ((rd_T54 t373 x17_2).f1)) ∧ w'.cell? (ad400.add ((x17_2).toNat * 2)) = some (.int .i64 ((rd_T54 t374 x17_2).f0)) ∧ w'.cell? ⟨(ad400.add ((x17_2).toNat * 2)).block, (ad400.add ((x17_2).toNat * 2)).off + 1, none⟩ = some (.int .i64 ((rd_T54 t374 x17_2).f1)) ∧ w'.cell? (ad399.add ((x17_2).toNat * 2)) = some (.int .i64 ((rd_T54 t373 x17_2).f0)) ∧ w'.cell? ⟨(ad399.add ((x17_2).toNat * 2)).block, (ad399.add ((x17_2).toNat * 2)).off + 1, none⟩ = some (.int .i64 ((rd_T54 t373 x17_2).f1)) ∧ w'.cell? (ad399.add ((x17_2).toNat * 2)) = some (.int .i64 ((rd_T54 t373 x17_2).f0)) ∧ w'.cell? ⟨(ad399.add ((x17_2).toNat * 2)).block, (ad399.add ((x17_2).toNat * 2)).off + 1, none⟩ = some (.int .i64 ((rd_T54 t373 x17_2).f1))) (ds := []) (bz 25 0) (by kernel_rfl) rfl rfl ⟨hx399_0, hx399_1, hx400_0, hx400_1, hx401_0, hx401_1, hx402_0, hx402_1⟩ (fun hHeld => ?_); refine with_tabW airchecklaw38_JudgeReasons.tab18 airchecklaw38_JudgeReasons.bits18 (fun HT_ HW_ => ?_)
              generalize w48.drew = w55 at HO_7 HO_8 HO_9 BK387 BK396 HB hx399_0 hx399_1 hx400_0 hx400_1 hx401_0 hx401_1 hx402_0 hx402_1 hHeld ⊢
              refine zP 0 (some 88) (bz 25 1) HT_ ?_
              refine zP 1 (some 89) (bz 25 3) HT_ ?_
              refine zP 2 (some 90) (bz 25 7) HT_ ?_
              refine zP 4 (some 92) (bz 25 23) HT_ ?_
              refine zP 5 (some 93) (bz 25 55) HT_ ?_
              refine zP 6 (some 94) (bz 25 119) HT_ ?_
              refine zT 3 (some 91) (bz 25 127) HT_ HW_ hHeld (v := ?_) ?_ ?_
              rotate_left
              ·rintro w' ⟨s0, s1, s2, s3, s4, s5, s6, s7⟩; go_simp; with_reducible rfl
              refine zT 7 (some 95) (bz 25 255) HT_ HW_ hHeld (v := ?_) ?_ ?_
              rotate_left
              ·rintro w' ⟨s0, s1, s2, s3, s4, s5, s6, s7⟩; go_simp; with_reducible rfl
              refine zP 8 (some 96) (bz 25 511) HT_ ?_
              refine zP 9 (some 97) (bz 25 1023) HT_ ?_
              refine zP 10 (some 98) (bz 25 2047) HT_ ?_
              refine zP 11 (some 99) (bz 25 4095) HT_ ?_
              refine zP 12 (some 100) (bz 25 8191) HT_ ?_
              refine zP 13 (some 101) (bz 25 16383) HT_ ?_
              refine zT 14 (some 102) (bz 25 32767) HT_ HW_ hHeld (v := ?_) ?_ ?_
              rotate_left
              ·rintro w' ⟨s0, s1, s2, s3, s4, s5, s6, s7⟩; go_simp; with_reducible rfl
              refine zP 15 (some 103) (bz 25 65535) HT_ ?_
              refine zP 16 (some 104) (bz 25 131071) HT_ ?_
              refine zP 17 (some 105) (bz 25 262143) HT_ ?_
              refine zP 18 (some 106) (bz 25 524287) HT_ ?_
              refine zP 19 (some 107) (bz 25 1048575) HT_ ?_
              refine zP 20 (some 108) (bz 25 2097151) HT_ ?_
              refine zT 21 (some 109) (bz 25 4194303) HT_ HW_ hHeld (v := ?_) ?_ ?_
              rotate_left
              ·rintro w' ⟨s0, s1, s2, s3, s4, s5, s6, s7⟩; go_simp; with_reducible rfl
              refine zP 22 (some 110) (bz 25 8388607) HT_ ?_
              refine zP 23 (some 111) (bz 25 16777215) HT_ ?_
              refine zP 24 (some 112) (bz 25 33554431) HT_ ?_
              refine done_ (done_of HT_.out (by kernel_rfl)) ?_
              try go_wp2
              go_meet
              case rel => exact ⟨_, ((((rd_T54 t373 x17_2).f0) != 2)), zE, H', ⟨by have := HJ11.out; have := HK2.out; first | omega | exact Nat.le_refl _⟩, ⟨zR HO_7.out⟩, ⟨zR HO_8.out⟩, ⟨zR HO_9.out⟩, ⟨zB BK387.out⟩, ⟨zB BK396.out⟩, ⟨by repeat (first | (with_reducible first | exact HB.out | apply below_alloc | apply pw_below_drewN | apply below_drew1 | refine below_set ?_ GE387.out | refine below_set ?_ GE396.out) | exact HB.out)⟩⟩
           ·rw [if_neg c50] at H
            exact absurd H (by simp)
          ·rw [if_neg c49] at H
           exact absurd H (by simp)
         case rest => as_aux_lemma =>
          clear HC47
          (try clear p2); (try clear p3); (try clear q3); (try clear hx3); (try clear c4); (try clear p4); (try clear q4); (try clear hx4); (try clear c5); (try clear p39); (try clear q39); (try clear hx39); (try clear p40); (try clear q40); (try clear hx40); (try clear c49); (try clear c50); (try clear c51); (try clear c51b0); (try clear c53); (try clear c53b0); (try clear c53b1); (try clear hx399_0); (try clear hx399_1); (try clear hx400_0); (try clear hx400_1); (try clear hx401_0); (try clear hx401_1); (try clear hx402_0); (try clear hx402_1); (try clear p399); (try clear p400); (try clear p401); (try clear p402); (try clear q399); (try clear q400); (try clear q401); (try clear q402)
          obtain ⟨kq, x112_46, rfl, HA, HJ46, HO_7, HO_8, HO_9, BK387, BK396, HB⟩ := hcut
          cases kq with
          | zero => exact absurd HA.out (by simp [airchecklaw38_JudgeReasons.j2])
          | succ kj46 =>
           have H := HA.out
           clear HA
           simp only [airchecklaw38_JudgeReasons.j2] at H
           by_cases c56 : x112_46 = true
           ·subst c56
            rw [if_pos rfl] at H
            have H' := Aside0.mk H
            clear H
            go_wp2
            go_roundg kj46
            case measure => have := HJ11.out; have := HK2.out; have := HJ46.out; omega
            case rel => exact ⟨(x14_2), (x15_2), (x16_2), (wrap64 (x17_2 + 1)), zE, zE, zE, zE, H', ⟨by have := HJ11.out; have := HK2.out; have := HJ46.out; omega⟩, ⟨zR HO_7.out⟩, ⟨zR HO_8.out⟩, ⟨zR HO_9.out⟩, ⟨zB BK387.out⟩, ⟨zB BK396.out⟩, ⟨by repeat (first | (with_reducible first | exact HB.out | apply below_alloc | apply pw_below_drewN | apply below_drew1 | refine below_set ?_ GE387.out | refine below_set ?_ GE396.out) | exact HB.out)⟩⟩
           ·replace c56 := Bool.eq_false_iff.mpr c56
            subst c56
            rw [if_neg (show ¬ (false = true) by decide)] at H
            by_cases c57 : 0 ≤ x17_2
            ·rw [if_pos c57] at H
             have c57b0 : decide (0 ≤ x17_2) = true := decide_eq_true c57
             clear c57
             by_cases c58 : x17_2 < (t373.length : Int)
             ·rw [if_pos c58] at H
              have c58b0 : decide (x17_2 < (t373.length : Int)) = true := decide_eq_true c58
              clear c58
              replace H := Option.bind_eq_some_iff.mp H
              obtain ⟨t404, A590, H⟩ := H
              have A59 := Aside0.mk A590
              clear A590
              replace H := Option.bind_eq_some_iff.mp H
              obtain ⟨t407, A600, H⟩ := H
              have A60 := Aside0.mk A600
              clear A600
              by_cases c61 : t407 = true
              ·subst c61
               rw [if_pos rfl] at H
               by_cases c62 : x16_2 < 0
               ·rw [if_pos c62] at H
                have c62b0 : decide (x16_2 < 0) = true := decide_eq_true c62
                clear c62
                have H' := Aside0.mk H
                clear H
                try go_wp2
                have n0_ := Aside0.mk (Kd.R_drew HO_7.out)
                have n1_ := Aside0.mk (Kd.R_drew HO_8.out)
                have n2_ := Aside0.mk (Kd.R_drew HO_9.out)
                have n3_ := Aside0.mk (blk_drew BK387.out)
                have n4_ := Aside0.mk (blk_drew BK396.out)
                have n5_ := Aside0.mk (below_drew1 HB.out)
                clear HO_7
                clear HO_8
                clear HO_9
                clear BK387
                clear BK396
                clear HB
                have HO_7 := n0_
                have HO_8 := n1_
                have HO_9 := n2_
                have BK387 := n3_
                have BK396 := n4_
                have HB := n5_
                clear n0_ n1_ n2_ n3_ n4_ n5_
                have p403 : 0 ≤ (x17_2 : Int) := of_decide_eq_true zA
                have q403 : x17_2 < (t373.length : Int) := of_decide_eq_true zA
                obtain ⟨ad403, e403, hx403_0, hx403_1⟩ := at_T54 (Kd.R_reads' HO_8.out).2.2 x17_2 p403 q403
                cases e403
                replace p403 := eq_true p403
                replace q403 := eq_true q403
                refine start_ (n := 7) (S := fun w' => w'.cell? (ad403.add ((x17_2).toNat * 2)) = some (.int .i64 ((rd_T54 t373 x17_2).f0)) ∧ w'.cell? ⟨(ad403.add ((x17_2).toNat * 2)).block, (ad403.add ((x17_2).toNat * 2)).off + 1, none⟩ = some (.int .i64 ((rd_T54 t373 x17_2).f1))) (ds := []) (bz 7 0) (by kernel_rfl) rfl rfl ⟨hx403_0, hx403_1⟩ (fun hHeld => ?_)
                generalize wc.drew = w63 at HO_7 HO_8 HO_9 BK387 BK396 HB hx403_0 hx403_1 hHeld ⊢
                refine pure_ (i := 0) (N := some 115) (v := ?_) (a' := ?_) (bz 7 1) rfl rfl (by kernel_rfl) (fun _ _ _ h => h) (Or.inl ⟨by rfl, ?_⟩) ?_ ?_
                rotate_left
                ·intro w'
                 go_simp
                 with_reducible rfl
                rotate_left
                ·simp only [Act.put, List.setIfInBounds_toArray, List.set_cons_zero, List.set_cons_succ, i64_w, i32_w]
                 rfl
                refine pure_ (i := 1) (N := some 116) (v := ?_) (a' := ?_) (bz 7 3) rfl rfl (by kernel_rfl) (fun _ _ _ h => h) (Or.inl ⟨by rfl, ?_⟩) ?_ ?_
                rotate_left
                ·intro w'
                 go_simp
                 with_reducible rfl
                rotate_left
                ·simp only [Act.put, List.setIfInBounds_toArray, List.set_cons_zero, List.set_cons_succ, i64_w, i32_w]
                 rfl
                refine pure_ (i := 2) (N := some 117) (v := ?_) (a' := ?_) (bz 7 7) rfl rfl (by kernel_rfl) (fun _ _ _ h => h) (Or.inl ⟨by rfl, ?_⟩) ?_ ?_
                rotate_left
                ·intro w'
                 go_simp
                 with_reducible rfl
                rotate_left
                ·simp only [Act.put, List.setIfInBounds_toArray, List.set_cons_zero, List.set_cons_succ, i64_w, i32_w]
                 rfl
                refine pure_ (i := 3) (N := some 118) (v := ?_) (a' := ?_) (bz 7 15) rfl rfl (by kernel_rfl) (fun _ _ _ h => h) (Or.inl ⟨by rfl, ?_⟩) ?_ ?_
                rotate_left
                ·intro w'
                 go_simp
                 with_reducible rfl
                rotate_left
                ·simp only [Act.put, List.setIfInBounds_toArray, List.set_cons_zero, List.set_cons_succ, i64_w, i32_w]
                 rfl
                refine take_ (i := 4) (N := some 119) (v := ?_) (a' := ?_) (bz 7 31) rfl rfl (by kernel_rfl) (fun _ _ _ h => h) (Or.inl ⟨by rfl, ?_⟩) hHeld ?_ ?_
                rotate_left
                ·rintro w' ⟨s0, s1⟩
                 go_simp
                 with_reducible rfl
                rotate_left
                ·simp only [Act.put, List.setIfInBounds_toArray, List.set_cons_zero, List.set_cons_succ, i64_w, i32_w]
                 rfl
                refine one_ (i := 5) (N := some 120) (bz 7 63) rfl rfl (by kernel_rfl) (by decide) (fun K hK => ?_)
                refine goes_ Tryd.func18 (by kernel_rfl) rfl #[] (by rfl) rfl rfl (by (try simp only [List.map_toArray, List.map_cons, List.map_nil]); first | done | rfl | (simp only [List.length_drop, List.length_take]; rfl)) ?_
                with_reducible refine (aircheckref38_Known.calls  t404 _ A59.out).mono ?_
                rintro e w64 ⟨v405, rfl, ho0, hb⟩
                have HS0_ := (hb.cell (World.block_lt_of_cell? _ _ (hHeld.1))).trans (hHeld.1)
                have HS1_ := (hb.cell (World.block_lt_of_cell? _ _ (hHeld.2))).trans (hHeld.2)
                refine ⟨_, rfl, ?_⟩
                have n0_ := Aside0.mk (Kd.R_below (zR HO_7.out) hb)
                have n1_ := Aside0.mk (Kd.R_below (zR HO_8.out) hb)
                have n2_ := Aside0.mk (Kd.R_below (zR HO_9.out) hb)
                have n3_ := Aside0.mk (Kd.R_lower ho0 (below_size (by repeat (first | (with_reducible first | exact HB.out | apply below_alloc | apply pw_below_drewN | apply below_drew1 | refine below_set ?_ GE387.out | refine below_set ?_ GE396.out) | exact HB.out))))
                have n4_ := Aside0.mk (blk_below (g := gb387) (o := .cells #[.bool t382, .int .i64 t383, .int .i64 t384, .int .i64 t385] 37 (0, 0)) (zB BK387.out) hb)
                have n5_ := Aside0.mk (blk_below (g := gb396) (o := .cells #[.bool t391, .int .i64 t392, .int .i64 t393, .int .i64 t394] 37 (0, 0)) (zB BK396.out) hb)
                have n6_ := Aside0.mk (below_step (by repeat (first | (with_reducible first | exact HB.out | apply below_alloc | apply pw_below_drewN | apply below_drew1 | refine below_set ?_ GE387.out | refine below_set ?_ GE396.out) | exact HB.out)) hb)
                clear HO_7
                clear HO_8
                clear HO_9
                clear BK387
                clear BK396
                clear HB
                have HO_7 := n0_
                have HO_8 := n1_
                have HO_9 := n2_
                have HO406 := n3_
                have BK387 := n4_
                have BK396 := n5_
                have HB := n6_
                clear n0_ n1_ n2_ n3_ n4_ n5_ n6_
                (try clear hb)
                (try clear hb2)
                (try clear hk)
                (try clear hi)
                (try clear ho0)
                obtain ⟨Ao65, co65, eo65⟩ := Kd.R_slice HO406.out
                (first | subst eo65 | (injection eo65 with f1_ f2_ f3_; have f4_ := f1_.symm; have f5_ := f3_.symm; clear f1_ f2_ f3_; subst f4_; subst f5_))
                refine hK.out _ _ ⟨HS0_, HS1_⟩ (fun hHeld => ?_)
                clear hK K
                refine norm_ (a' := ?_) ?_ ?_
                rotate_left
                ·show Act.put _ (some 120) _ = _
                 simp only [Act.put, List.setIfInBounds_toArray, List.set_cons_zero, List.set_cons_succ, i64_w, i32_w]
                 rfl
                refine one_ (i := 6) (N := some 121) (bz 7 127) rfl rfl (by kernel_rfl) (by decide) (fun K hK => ?_)
                refine goes_ Tryd.func25 (by kernel_rfl) rfl #[.int .i64 t397, .agg #[.int .i64 ((rd_T54 t373 x17_2).f0), .int .i64 ((rd_T54 t373 x17_2).f1)], .slice Ao65 t404.length co65] (by rfl) rfl rfl (by (try simp only [List.map_toArray, List.map_cons, List.map_nil]); first | done | rfl | (simp only [List.length_drop, List.length_take]; rfl)) ?_
                with_reducible refine (judge_Against.calls kj46 t397 ((rd_T54 t373 x17_2).f0) ((rd_T54 t373 x17_2).f1) _ _ t404 true _ ?side3 ?side1 ?side2 A60.out).mono ?_
                (case side1 => exact zC (Kd.R_reads' HO406.out).2.2)
                (case side2 => exact (Kd.R_reads' HO406.out).2.1)
                (case side3 => exact gg_at hG (by repeat (first | (with_reducible first | exact HB.out | apply below_alloc | apply pw_below_drewN | apply below_drew1 | refine below_set ?_ GE387.out | refine below_set ?_ GE396.out) | exact HB.out)))
                rintro e w66 ⟨rfl, hb⟩
                have HS0_ := (hb.cell (World.block_lt_of_cell? _ _ (hHeld.1))).trans (hHeld.1)
                have HS1_ := (hb.cell (World.block_lt_of_cell? _ _ (hHeld.2))).trans (hHeld.2)
                refine ⟨_, rfl, ?_⟩
                have n0_ := Aside0.mk (Kd.R_below (zR HO_7.out) hb)
                have n1_ := Aside0.mk (Kd.R_below (zR HO_8.out) hb)
                have n2_ := Aside0.mk (Kd.R_below (zR HO_9.out) hb)
                have n3_ := Aside0.mk (Kd.R_below (zR HO406.out) hb)
                have n4_ := Aside0.mk (blk_below (g := gb387) (o := .cells #[.bool t382, .int .i64 t383, .int .i64 t384, .int .i64 t385] 37 (0, 0)) (zB BK387.out) hb)
                have n5_ := Aside0.mk (blk_below (g := gb396) (o := .cells #[.bool t391, .int .i64 t392, .int .i64 t393, .int .i64 t394] 37 (0, 0)) (zB BK396.out) hb)
                have n6_ := Aside0.mk (below_step (by repeat (first | (with_reducible first | exact HB.out | apply below_alloc | apply pw_below_drewN | apply below_drew1 | refine below_set ?_ GE387.out | refine below_set ?_ GE396.out) | exact HB.out)) hb)
                clear HO_7
                clear HO_8
                clear HO_9
                clear HO406
                clear BK387
                clear BK396
                clear HB
                have HO_7 := n0_
                have HO_8 := n1_
                have HO_9 := n2_
                have HO406 := n3_
                have BK387 := n4_
                have BK396 := n5_
                have HB := n6_
                clear n0_ n1_ n2_ n3_ n4_ n5_ n6_
                (try clear hb)
                (try clear hb2)
                (try clear hk)
                (try clear hi)
                refine hK.out _ _ ⟨HS0_, HS1_⟩ (fun hHeld => ?_)
                clear hK K
                refine norm_ (a' := ?_) ?_ ?_
                rotate_left
                ·show Act.put _ (some 121) _ = _
                 simp only [Act.put, List.setIfInBounds_toArray, List.set_cons_zero, List.set_cons_succ, i64_w, i32_w]
                 rfl
                refine done_ (by kernel_rfl) ?_
                try go_wp2
                go_roundg kj46
                case measure => have := HJ11.out; have := HK2.out; have := HJ46.out; omega
                case rel => exact ⟨(wrap64 (x14_2 + 1)), (wrap64 (x15_2 + 1)), (x17_2), (wrap64 (x17_2 + 1)), zE, zE, zE, zE, H', ⟨by have := HJ11.out; have := HK2.out; have := HJ46.out; omega⟩, ⟨zR HO_7.out⟩, ⟨zR HO_8.out⟩, ⟨zR HO_9.out⟩, ⟨zB BK387.out⟩, ⟨zB BK396.out⟩, ⟨by repeat (first | (with_reducible first | exact HB.out | apply below_alloc | apply pw_below_drewN | apply below_drew1 | refine below_set ?_ GE387.out | refine below_set ?_ GE396.out) | exact HB.out)⟩⟩
               ·rw [if_neg c62] at H
                have c62b0 : decide (x16_2 < 0) = false := decide_eq_false c62
                clear c62
                have H' := Aside0.mk H
                clear H
                try go_wp2
                have n0_ := Aside0.mk (Kd.R_drew HO_7.out)
                have n1_ := Aside0.mk (Kd.R_drew HO_8.out)
                have n2_ := Aside0.mk (Kd.R_drew HO_9.out)
                have n3_ := Aside0.mk (blk_drew BK387.out)
                have n4_ := Aside0.mk (blk_drew BK396.out)
                have n5_ := Aside0.mk (below_drew1 HB.out)
                clear HO_7
                clear HO_8
                clear HO_9
                clear BK387
                clear BK396
                clear HB
                have HO_7 := n0_
                have HO_8 := n1_
                have HO_9 := n2_
                have BK387 := n3_
                have BK396 := n4_
                have HB := n5_
                clear n0_ n1_ n2_ n3_ n4_ n5_
                have p403 : 0 ≤ (x17_2 : Int) := of_decide_eq_true zA
                have q403 : x17_2 < (t373.length : Int) := of_decide_eq_true zA
                obtain ⟨ad403, e403, hx403_0, hx403_1⟩ := at_T54 (Kd.R_reads' HO_8.out).2.2 x17_2 p403 q403
                cases e403
                replace p403 := eq_true p403
                replace q403 := eq_true q403
                refine start_ (n := 7) (S := fun w' => w'.cell? (ad403.add ((x17_2).toNat * 2)) = some (.int .i64 ((rd_T54 t373 x17_2).f0)) ∧ w'.cell? ⟨(ad403.add ((x17_2).toNat * 2)).block, (ad403.add ((x17_2).toNat * 2)).off + 1, none⟩ = some (.int .i64 ((rd_T54 t373 x17_2).f1))) (ds := []) (bz 7 0) (by kernel_rfl) rfl rfl ⟨hx403_0, hx403_1⟩ (fun hHeld => ?_)
                generalize wc.drew = w67 at HO_7 HO_8 HO_9 BK387 BK396 HB hx403_0 hx403_1 hHeld ⊢
                refine pure_ (i := 0) (N := some 115) (v := ?_) (a' := ?_) (bz 7 1) rfl rfl (by kernel_rfl) (fun _ _ _ h => h) (Or.inl ⟨by rfl, ?_⟩) ?_ ?_
                rotate_left
                ·intro w'
                 go_simp
                 with_reducible rfl
                rotate_left
                ·simp only [Act.put, List.setIfInBounds_toArray, List.set_cons_zero, List.set_cons_succ, i64_w, i32_w]
                 rfl
                refine pure_ (i := 1) (N := some 116) (v := ?_) (a' := ?_) (bz 7 3) rfl rfl (by kernel_rfl) (fun _ _ _ h => h) (Or.inl ⟨by rfl, ?_⟩) ?_ ?_
                rotate_left
                ·intro w'
                 go_simp
                 with_reducible rfl
                rotate_left
                ·simp only [Act.put, List.setIfInBounds_toArray, List.set_cons_zero, List.set_cons_succ, i64_w, i32_w]
                 rfl
                refine pure_ (i := 2) (N := some 117) (v := ?_) (a' := ?_) (bz 7 7) rfl rfl (by kernel_rfl) (fun _ _ _ h => h) (Or.inl ⟨by rfl, ?_⟩) ?_ ?_
                rotate_left
                ·intro w'
                 go_simp
                 with_reducible rfl
                rotate_left
                ·simp only [Act.put, List.setIfInBounds_toArray, List.set_cons_zero, List.set_cons_succ, i64_w, i32_w]
                 rfl
                refine pure_ (i := 3) (N := some 118) (v := ?_) (a' := ?_) (bz 7 15) rfl rfl (by kernel_rfl) (fun _ _ _ h => h) (Or.inl ⟨by rfl, ?_⟩) ?_ ?_
                rotate_left
                ·intro w'
                 go_simp
                 with_reducible rfl
                rotate_left
                ·simp only [Act.put, List.setIfInBounds_toArray, List.set_cons_zero, List.set_cons_succ, i64_w, i32_w]
                 rfl
                refine take_ (i := 4) (N := some 119) (v := ?_) (a' := ?_) (bz 7 31) rfl rfl (by kernel_rfl) (fun _ _ _ h => h) (Or.inl ⟨by rfl, ?_⟩) hHeld ?_ ?_
                rotate_left
                ·rintro w' ⟨s0, s1⟩
                 go_simp
                 with_reducible rfl
                rotate_left
                ·simp only [Act.put, List.setIfInBounds_toArray, List.set_cons_zero, List.set_cons_succ, i64_w, i32_w]
                 rfl
                refine one_ (i := 5) (N := some 120) (bz 7 63) rfl rfl (by kernel_rfl) (by decide) (fun K hK => ?_)
                refine goes_ Tryd.func18 (by kernel_rfl) rfl #[] (by rfl) rfl rfl (by (try simp only [List.map_toArray, List.map_cons, List.map_nil]); first | done | rfl | (simp only [List.length_drop, List.length_take]; rfl)) ?_
                with_reducible refine (aircheckref38_Known.calls  t404 _ A59.out).mono ?_
                rintro e w68 ⟨v405, rfl, ho0, hb⟩
                have HS0_ := (hb.cell (World.block_lt_of_cell? _ _ (hHeld.1))).trans (hHeld.1)
                have HS1_ := (hb.cell (World.block_lt_of_cell? _ _ (hHeld.2))).trans (hHeld.2)
                refine ⟨_, rfl, ?_⟩
                have n0_ := Aside0.mk (Kd.R_below (zR HO_7.out) hb)
                have n1_ := Aside0.mk (Kd.R_below (zR HO_8.out) hb)
                have n2_ := Aside0.mk (Kd.R_below (zR HO_9.out) hb)
                have n3_ := Aside0.mk (Kd.R_lower ho0 (below_size (by repeat (first | (with_reducible first | exact HB.out | apply below_alloc | apply pw_below_drewN | apply below_drew1 | refine below_set ?_ GE387.out | refine below_set ?_ GE396.out) | exact HB.out))))
                have n4_ := Aside0.mk (blk_below (g := gb387) (o := .cells #[.bool t382, .int .i64 t383, .int .i64 t384, .int .i64 t385] 37 (0, 0)) (zB BK387.out) hb)
                have n5_ := Aside0.mk (blk_below (g := gb396) (o := .cells #[.bool t391, .int .i64 t392, .int .i64 t393, .int .i64 t394] 37 (0, 0)) (zB BK396.out) hb)
                have n6_ := Aside0.mk (below_step (by repeat (first | (with_reducible first | exact HB.out | apply below_alloc | apply pw_below_drewN | apply below_drew1 | refine below_set ?_ GE387.out | refine below_set ?_ GE396.out) | exact HB.out)) hb)
                clear HO_7
                clear HO_8
                clear HO_9
                clear BK387
                clear BK396
                clear HB
                have HO_7 := n0_
                have HO_8 := n1_
                have HO_9 := n2_
                have HO406 := n3_
                have BK387 := n4_
                have BK396 := n5_
                have HB := n6_
                clear n0_ n1_ n2_ n3_ n4_ n5_ n6_
                (try clear hb)
                (try clear hb2)
                (try clear hk)
                (try clear hi)
                (try clear ho0)
                obtain ⟨Ao69, co69, eo69⟩ := Kd.R_slice HO406.out
                (first | subst eo69 | (injection eo69 with f1_ f2_ f3_; have f4_ := f1_.symm; have f5_ := f3_.symm; clear f1_ f2_ f3_; subst f4_; subst f5_))
                refine hK.out _ _ ⟨HS0_, HS1_⟩ (fun hHeld => ?_)
                clear hK K
                refine norm_ (a' := ?_) ?_ ?_
                rotate_left
                ·show Act.put _ (some 120) _ = _
                 simp only [Act.put, List.setIfInBounds_toArray, List.set_cons_zero, List.set_cons_succ, i64_w, i32_w]
                 rfl
                refine one_ (i := 6) (N := some 121) (bz 7 127) rfl rfl (by kernel_rfl) (by decide) (fun K hK => ?_)
                refine goes_ Tryd.func25 (by kernel_rfl) rfl #[.int .i64 t397, .agg #[.int .i64 ((rd_T54 t373 x17_2).f0), .int .i64 ((rd_T54 t373 x17_2).f1)], .slice Ao69 t404.length co69] (by rfl) rfl rfl (by (try simp only [List.map_toArray, List.map_cons, List.map_nil]); first | done | rfl | (simp only [List.length_drop, List.length_take]; rfl)) ?_
                with_reducible refine (judge_Against.calls kj46 t397 ((rd_T54 t373 x17_2).f0) ((rd_T54 t373 x17_2).f1) _ _ t404 true _ ?side3 ?side1 ?side2 A60.out).mono ?_
                (case side1 => exact zC (Kd.R_reads' HO406.out).2.2)
                (case side2 => exact (Kd.R_reads' HO406.out).2.1)
                (case side3 => exact gg_at hG (by repeat (first | (with_reducible first | exact HB.out | apply below_alloc | apply pw_below_drewN | apply below_drew1 | refine below_set ?_ GE387.out | refine below_set ?_ GE396.out) | exact HB.out)))
                rintro e w70 ⟨rfl, hb⟩
                have HS0_ := (hb.cell (World.block_lt_of_cell? _ _ (hHeld.1))).trans (hHeld.1)
                have HS1_ := (hb.cell (World.block_lt_of_cell? _ _ (hHeld.2))).trans (hHeld.2)
                refine ⟨_, rfl, ?_⟩
                have n0_ := Aside0.mk (Kd.R_below (zR HO_7.out) hb)
                have n1_ := Aside0.mk (Kd.R_below (zR HO_8.out) hb)
                have n2_ := Aside0.mk (Kd.R_below (zR HO_9.out) hb)
                have n3_ := Aside0.mk (Kd.R_below (zR HO406.out) hb)
                have n4_ := Aside0.mk (blk_below (g := gb387) (o := .cells #[.bool t382, .int .i64 t383, .int .i64 t384, .int .i64 t385] 37 (0, 0)) (zB BK387.out) hb)
                have n5_ := Aside0.mk (blk_below (g := gb396) (o := .cells #[.bool t391, .int .i64 t392, .int .i64 t393, .int .i64 t394] 37 (0, 0)) (zB BK396.out) hb)
                have n6_ := Aside0.mk (below_step (by repeat (first | (with_reducible first | exact HB.out | apply below_alloc | apply pw_below_drewN | apply below_drew1 | refine below_set ?_ GE387.out | refine below_set ?_ GE396.out) | exact HB.out)) hb)
                clear HO_7
                clear HO_8
                clear HO_9
                clear HO406
                clear BK387
                clear BK396
                clear HB
                have HO_7 := n0_
                have HO_8 := n1_
                have HO_9 := n2_
                have HO406 := n3_
                have BK387 := n4_
                have BK396 := n5_
                have HB := n6_
                clear n0_ n1_ n2_ n3_ n4_ n5_ n6_
                (try clear hb)
                (try clear hb2)
                (try clear hk)
                (try clear hi)
                refine hK.out _ _ ⟨HS0_, HS1_⟩ (fun hHeld => ?_)
                clear hK K
                refine norm_ (a' := ?_) ?_ ?_
                rotate_left
                ·show Act.put _ (some 121) _ = _
                 simp only [Act.put, List.setIfInBounds_toArray, List.set_cons_zero, List.set_cons_succ, i64_w, i32_w]
                 rfl
                refine done_ (by kernel_rfl) ?_
                try go_wp2
                go_roundg kj46
                case measure => have := HJ11.out; have := HK2.out; have := HJ46.out; omega
                case rel => exact ⟨(wrap64 (x14_2 + 1)), (wrap64 (x15_2 + 1)), (x16_2), (wrap64 (x17_2 + 1)), zE, zE, zE, zE, H', ⟨by have := HJ11.out; have := HK2.out; have := HJ46.out; omega⟩, ⟨zR HO_7.out⟩, ⟨zR HO_8.out⟩, ⟨zR HO_9.out⟩, ⟨zB BK387.out⟩, ⟨zB BK396.out⟩, ⟨by repeat (first | (with_reducible first | exact HB.out | apply below_alloc | apply pw_below_drewN | apply below_drew1 | refine below_set ?_ GE387.out | refine below_set ?_ GE396.out) | exact HB.out)⟩⟩
              ·replace c61 := Bool.eq_false_iff.mpr c61
               subst c61
               rw [if_neg (show ¬ (false = true) by decide)] at H
               have H' := Aside0.mk H
               clear H
               try go_wp2
               have n0_ := Aside0.mk (Kd.R_drew HO_7.out)
               have n1_ := Aside0.mk (Kd.R_drew HO_8.out)
               have n2_ := Aside0.mk (Kd.R_drew HO_9.out)
               have n3_ := Aside0.mk (blk_drew BK387.out)
               have n4_ := Aside0.mk (blk_drew BK396.out)
               have n5_ := Aside0.mk (below_drew1 HB.out)
               clear HO_7
               clear HO_8
               clear HO_9
               clear BK387
               clear BK396
               clear HB
               have HO_7 := n0_
               have HO_8 := n1_
               have HO_9 := n2_
               have BK387 := n3_
               have BK396 := n4_
               have HB := n5_
               clear n0_ n1_ n2_ n3_ n4_ n5_
               have p403 : 0 ≤ (x17_2 : Int) := of_decide_eq_true zA
               have q403 : x17_2 < (t373.length : Int) := of_decide_eq_true zA
               obtain ⟨ad403, e403, hx403_0, hx403_1⟩ := at_T54 (Kd.R_reads' HO_8.out).2.2 x17_2 p403 q403
               cases e403
               replace p403 := eq_true p403
               replace q403 := eq_true q403
               refine start_ (n := 7) (S := fun w' => w'.cell? (ad403.add ((x17_2).toNat * 2)) = some (.int .i64 ((rd_T54 t373 x17_2).f0)) ∧ w'.cell? ⟨(ad403.add ((x17_2).toNat * 2)).block, (ad403.add ((x17_2).toNat * 2)).off + 1, none⟩ = some (.int .i64 ((rd_T54 t373 x17_2).f1))) (ds := []) (bz 7 0) (by kernel_rfl) rfl rfl ⟨hx403_0, hx403_1⟩ (fun hHeld => ?_)
               generalize wc.drew = w71 at HO_7 HO_8 HO_9 BK387 BK396 HB hx403_0 hx403_1 hHeld ⊢
               refine pure_ (i := 0) (N := some 115) (v := ?_) (a' := ?_) (bz 7 1) rfl rfl (by kernel_rfl) (fun _ _ _ h => h) (Or.inl ⟨by rfl, ?_⟩) ?_ ?_
               rotate_left
               ·intro w'
                go_simp
                with_reducible rfl
               rotate_left
               ·simp only [Act.put, List.setIfInBounds_toArray, List.set_cons_zero, List.set_cons_succ, i64_w, i32_w]
                rfl
               refine pure_ (i := 1) (N := some 116) (v := ?_) (a' := ?_) (bz 7 3) rfl rfl (by kernel_rfl) (fun _ _ _ h => h) (Or.inl ⟨by rfl, ?_⟩) ?_ ?_
               rotate_left
               ·intro w'
                go_simp
                with_reducible rfl
               rotate_left
               ·simp only [Act.put, List.setIfInBounds_toArray, List.set_cons_zero, List.set_cons_succ, i64_w, i32_w]
                rfl
               refine pure_ (i := 2) (N := some 117) (v := ?_) (a' := ?_) (bz 7 7) rfl rfl (by kernel_rfl) (fun _ _ _ h => h) (Or.inl ⟨by rfl, ?_⟩) ?_ ?_
               rotate_left
               ·intro w'
                go_simp
                with_reducible rfl
               rotate_left
               ·simp only [Act.put, List.setIfInBounds_toArray, List.set_cons_zero, List.set_cons_succ, i64_w, i32_w]
                rfl
               refine pure_ (i := 3) (N := some 118) (v := ?_) (a' := ?_) (bz 7 15) rfl rfl (by kernel_rfl) (fun _ _ _ h => h) (Or.inl ⟨by rfl, ?_⟩) ?_ ?_
               rotate_left
               ·intro w'
                go_simp
                with_reducible rfl
               rotate_left
               ·simp only [Act.put, List.setIfInBounds_toArray, List.set_cons_zero, List.set_cons_succ, i64_w, i32_w]
                rfl
               refine take_ (i := 4) (N := some 119) (v := ?_) (a' := ?_) (bz 7 31) rfl rfl (by kernel_rfl) (fun _ _ _ h => h) (Or.inl ⟨by rfl, ?_⟩) hHeld ?_ ?_
               rotate_left
               ·rintro w' ⟨s0, s1⟩
                go_simp
                with_reducible rfl
               rotate_left
               ·simp only [Act.put, List.setIfInBounds_toArray, List.set_cons_zero, List.set_cons_succ, i64_w, i32_w]
                rfl
               refine one_ (i := 5) (N := some 120) (bz 7 63) rfl rfl (by kernel_rfl) (by decide) (fun K hK => ?_)
               refine goes_ Tryd.func18 (by kernel_rfl) rfl #[] (by rfl) rfl rfl (by (try simp only [List.map_toArray, List.map_cons, List.map_nil]); first | done | rfl | (simp only [List.length_drop, List.length_take]; rfl)) ?_
               with_reducible refine (aircheckref38_Known.calls  t404 _ A59.out).mono ?_
               rintro e w72 ⟨v405, rfl, ho0, hb⟩
               have HS0_ := (hb.cell (World.block_lt_of_cell? _ _ (hHeld.1))).trans (hHeld.1)
               have HS1_ := (hb.cell (World.block_lt_of_cell? _ _ (hHeld.2))).trans (hHeld.2)
               refine ⟨_, rfl, ?_⟩
               have n0_ := Aside0.mk (Kd.R_below (zR HO_7.out) hb)
               have n1_ := Aside0.mk (Kd.R_below (zR HO_8.out) hb)
               have n2_ := Aside0.mk (Kd.R_below (zR HO_9.out) hb)
               have n3_ := Aside0.mk (Kd.R_lower ho0 (below_size (by repeat (first | (with_reducible first | exact HB.out | apply below_alloc | apply pw_below_drewN | apply below_drew1 | refine below_set ?_ GE387.out | refine below_set ?_ GE396.out) | exact HB.out))))
               have n4_ := Aside0.mk (blk_below (g := gb387) (o := .cells #[.bool t382, .int .i64 t383, .int .i64 t384, .int .i64 t385] 37 (0, 0)) (zB BK387.out) hb)
               have n5_ := Aside0.mk (blk_below (g := gb396) (o := .cells #[.bool t391, .int .i64 t392, .int .i64 t393, .int .i64 t394] 37 (0, 0)) (zB BK396.out) hb)
               have n6_ := Aside0.mk (below_step (by repeat (first | (with_reducible first | exact HB.out | apply below_alloc | apply pw_below_drewN | apply below_drew1 | refine below_set ?_ GE387.out | refine below_set ?_ GE396.out) | exact HB.out)) hb)
               clear HO_7
               clear HO_8
               clear HO_9
               clear BK387
               clear BK396
               clear HB
               have HO_7 := n0_
               have HO_8 := n1_
               have HO_9 := n2_
               have HO406 := n3_
               have BK387 := n4_
               have BK396 := n5_
               have HB := n6_
               clear n0_ n1_ n2_ n3_ n4_ n5_ n6_
               (try clear hb)
               (try clear hb2)
               (try clear hk)
               (try clear hi)
               (try clear ho0)
               obtain ⟨Ao73, co73, eo73⟩ := Kd.R_slice HO406.out
               (first | subst eo73 | (injection eo73 with f1_ f2_ f3_; have f4_ := f1_.symm; have f5_ := f3_.symm; clear f1_ f2_ f3_; subst f4_; subst f5_))
               refine hK.out _ _ ⟨HS0_, HS1_⟩ (fun hHeld => ?_)
               clear hK K
               refine norm_ (a' := ?_) ?_ ?_
               rotate_left
               ·show Act.put _ (some 120) _ = _
                simp only [Act.put, List.setIfInBounds_toArray, List.set_cons_zero, List.set_cons_succ, i64_w, i32_w]
                rfl
               refine one_ (i := 6) (N := some 121) (bz 7 127) rfl rfl (by kernel_rfl) (by decide) (fun K hK => ?_)
               refine goes_ Tryd.func25 (by kernel_rfl) rfl #[.int .i64 t397, .agg #[.int .i64 ((rd_T54 t373 x17_2).f0), .int .i64 ((rd_T54 t373 x17_2).f1)], .slice Ao73 t404.length co73] (by rfl) rfl rfl (by (try simp only [List.map_toArray, List.map_cons, List.map_nil]); first | done | rfl | (simp only [List.length_drop, List.length_take]; rfl)) ?_
               with_reducible refine (judge_Against.calls kj46 t397 ((rd_T54 t373 x17_2).f0) ((rd_T54 t373 x17_2).f1) _ _ t404 false _ ?side3 ?side1 ?side2 A60.out).mono ?_
               (case side1 => exact zC (Kd.R_reads' HO406.out).2.2)
               (case side2 => exact (Kd.R_reads' HO406.out).2.1)
               (case side3 => exact gg_at hG (by repeat (first | (with_reducible first | exact HB.out | apply below_alloc | apply pw_below_drewN | apply below_drew1 | refine below_set ?_ GE387.out | refine below_set ?_ GE396.out) | exact HB.out)))
               rintro e w74 ⟨rfl, hb⟩
               have HS0_ := (hb.cell (World.block_lt_of_cell? _ _ (hHeld.1))).trans (hHeld.1)
               have HS1_ := (hb.cell (World.block_lt_of_cell? _ _ (hHeld.2))).trans (hHeld.2)
               refine ⟨_, rfl, ?_⟩
               have n0_ := Aside0.mk (Kd.R_below (zR HO_7.out) hb)
               have n1_ := Aside0.mk (Kd.R_below (zR HO_8.out) hb)
               have n2_ := Aside0.mk (Kd.R_below (zR HO_9.out) hb)
               have n3_ := Aside0.mk (Kd.R_below (zR HO406.out) hb)
               have n4_ := Aside0.mk (blk_below (g := gb387) (o := .cells #[.bool t382, .int .i64 t383, .int .i64 t384, .int .i64 t385] 37 (0, 0)) (zB BK387.out) hb)
               have n5_ := Aside0.mk (blk_below (g := gb396) (o := .cells #[.bool t391, .int .i64 t392, .int .i64 t393, .int .i64 t394] 37 (0, 0)) (zB BK396.out) hb)
               have n6_ := Aside0.mk (below_step (by repeat (first | (with_reducible first | exact HB.out | apply below_alloc | apply pw_below_drewN | apply below_drew1 | refine below_set ?_ GE387.out | refine below_set ?_ GE396.out) | exact HB.out)) hb)
               clear HO_7
               clear HO_8
               clear HO_9
               clear HO406
               clear BK387
               clear BK396
               clear HB
               have HO_7 := n0_
               have HO_8 := n1_
               have HO_9 := n2_
               have HO406 := n3_
               have BK387 := n4_
               have BK396 := n5_
               have HB := n6_
               clear n0_ n1_ n2_ n3_ n4_ n5_ n6_
               (try clear hb)
               (try clear hb2)
               (try clear hk)
               (try clear hi)
               refine hK.out _ _ ⟨HS0_, HS1_⟩ (fun hHeld => ?_)
               clear hK K
               refine norm_ (a' := ?_) ?_ ?_
               rotate_left
               ·show Act.put _ (some 121) _ = _
                simp only [Act.put, List.setIfInBounds_toArray, List.set_cons_zero, List.set_cons_succ, i64_w, i32_w]
                rfl
               refine done_ (by kernel_rfl) ?_
               try go_wp2
               go_roundg kj46
               case measure => have := HJ11.out; have := HK2.out; have := HJ46.out; omega
               case rel => exact ⟨(wrap64 (x14_2 + 1)), (x15_2), (x16_2), (wrap64 (x17_2 + 1)), zE, zE, zE, zE, H', ⟨by have := HJ11.out; have := HK2.out; have := HJ46.out; omega⟩, ⟨zR HO_7.out⟩, ⟨zR HO_8.out⟩, ⟨zR HO_9.out⟩, ⟨zB BK387.out⟩, ⟨zB BK396.out⟩, ⟨by repeat (first | (with_reducible first | exact HB.out | apply below_alloc | apply pw_below_drewN | apply below_drew1 | refine below_set ?_ GE387.out | refine below_set ?_ GE396.out) | exact HB.out)⟩⟩
             ·rw [if_neg c58] at H
              exact absurd H (by simp)
            ·rw [if_neg c57] at H
             exact absurd H (by simp)
        ·rw [if_neg c46] at H
         have c46b0 : (t398 == 0) = false := beq_eq_false_iff_ne.mpr c46
         have c46b1 : (t398 != 0) = true := bne_iff_ne.mpr c46
         exact absurd (Option.some.inj H) (by rw [hr0.out]; exact Bool.false_ne_true)
       ·rw [if_neg c44] at H
        have c44b0 : decide (x17_2 < (t373.length : Int)) = false := decide_eq_false c44
        clear c44
        by_cases c76 : t384 = x14_2
        ·rw [if_pos c76] at H
         have c76b0 : (t384 == x14_2) = true := beq_iff_eq.mpr c76
         have c76b1 : (t384 != x14_2) = false := bne_eq_false_iff_eq.mpr c76
         clear c76
         by_cases c77 : t385 = x15_2
         ·rw [if_pos c77] at H
          have c77b0 : (t385 == x15_2) = true := beq_iff_eq.mpr c77
          have c77b1 : (t385 != x15_2) = false := bne_eq_false_iff_eq.mpr c77
          clear c77
          obtain rfl := Option.some.inj H
          have hnb78 := NB387_396.out
          have hnc78 := NB396_387.out
          have hcz79_0 : wr.cell? ⟨gb387, 0, none⟩ = some (.bool t382) := (blk_cell BK387.out 0).trans rfl
          have hcz79_1 : wr.cell? ⟨gb387, 1, none⟩ = some (.int .i64 t383) := (blk_cell BK387.out 1).trans rfl
          have hcz79_2 : wr.cell? ⟨gb387, 2, none⟩ = some (.int .i64 t384) := (blk_cell BK387.out 2).trans rfl
          have hcz79_3 : wr.cell? ⟨gb387, 3, none⟩ = some (.int .i64 t385) := (blk_cell BK387.out 3).trans rfl
          have hfz79_0 := blk_frozen BK387.out 0
          have hfz79_1 := blk_frozen BK387.out 1
          have hfz79_2 := blk_frozen BK387.out 2
          have hfz79_3 := blk_frozen BK387.out 3
          go_wp2
          go_ret
          exact ⟨by first | rfl | (simp [errW_none, errW_some] <;> rfl) | (simp [*, errW_none, errW_some] <;> rfl), by repeat (first | (with_reducible first | exact HB.out | apply below_alloc | apply pw_below_drewN | apply below_drew1 | refine below_set ?_ GE387.out | refine below_set ?_ GE396.out) | exact HB.out)⟩
         ·rw [if_neg c77] at H
          have c77b0 : (t385 == x15_2) = false := beq_eq_false_iff_ne.mpr c77
          have c77b1 : (t385 != x15_2) = true := bne_iff_ne.mpr c77
          exact absurd (Option.some.inj H) (by rw [hr0.out]; exact Bool.false_ne_true)
        ·rw [if_neg c76] at H
         have c76b0 : (t384 == x14_2) = false := beq_eq_false_iff_ne.mpr c76
         have c76b1 : (t384 != x14_2) = true := bne_iff_ne.mpr c76
         exact absurd (Option.some.inj H) (by rw [hr0.out]; exact Bool.false_ne_true)
 ·replace c5 := Bool.eq_false_iff.mpr c5
  subst c5
  have H1 : (some false) = some r := by rw [if_neg (show ¬ (false = true) by decide)] at H; exact H
  exact absurd (Option.some.inj H1) (by rw [hr0.out]; exact Bool.false_ne_true)
/-- THE ONE PURE STATEMENT of airchecklaw38_JudgeReasons. -/
def airchecklaw38_JudgeReasons.Pure : Prop := ∀ (a0 : Int) (l1 : List (S127)) (l2 : List (S101)), (Lit.int .i64 a0).wf = true → (l1.length ≤ maxLen ∧ l1.length * 24 ≤ 140737488351232 ∧ ∀ x ∈ l1, (fun x => Q127 x) x) → (l2.length ≤ maxLen ∧ l2.length * 16 ≤ 140737488351232 ∧ ∀ x ∈ l2, (fun x => Q101 x) x) → ∃ k, airchecklaw38_JudgeReasons.f k a0 l1 l2 = some true
end Go.Proofs.YtglcdgalimgkeaaDoor.PJB
