-- PRINTED by print.py (a twelfth state) out of the translation. Not trusted: Lean checks it.
import Derived.Test.YtbhngbjopfjacaaPS15x0
import Derived.Test.YtbhngbjopfjacaaPS15x3
import Derived.Test.YtbhngbjopfjacaaPS15x6
import Derived.Test.YtbhngbjopfjacaaPS15x7
import Derived.Test.YtbhngbjopfjacaaPS15x8
import Derived.Test.YtbhngbjopfjacaaPS15x9
import Derived.Test.YtbhngbjopfjacaaPS15x10
import Derived.RangeFuncNested
import Derived.RangeFuncBound
import Derived.RangeFuncCalls
import Derived.RangeFuncLeaves
import Derived.RangeFuncBox
import Derived.Shelf.Abstract
import Derived.Shelf.RegionOpen
import Derived.OwnWalkIn
import Derived.TacticsInMore
import Derived.LoopNIn
import Derived.LoopIn
import Derived.OneCell
import Derived.BigQuiet
import Derived.Deep.RegionWith
import Derived.Deep.RegionHeld3
import Derived.Deep.RegionLaw
import Derived.IntWalk
import Derived.Lib.SliceRun
import Derived.Deep.RegionLawGrows
namespace Go.Proofs.Ytbhngbjopfjacaa.PS15
open Go.RowKit Go.Proofs.YtbhngbjopfjacaaW.PrintWords Go.Proofs.YtbhngbjopfjacaaW.PrintLast Go.Proofs.YtbhngbjopfjacaaW.PrintMore
attribute [local go_sem] max2_int min2_int max_two min_two max_three min_three max_four min_four   -- for this text's walks alone
set_option linter.unusedVariables false
set_option linter.unusedSimpArgs false

attribute [local go_sem] Oper.semAt_some
open Go.Shelf
-- given by hand: bt0
def sn_A : List S25 := [⟨0, 20, 0⟩, ⟨20, 50, 7⟩, ⟨50, 100, 0⟩]
def sn_B : List S25 := [⟨0, 20, 0⟩, ⟨20, 40, 7⟩, ⟨40, 60, 9⟩, ⟨60, 100, 0⟩]
def sn_C : List S25 := [⟨0, 20, 0⟩, ⟨20, 60, 7⟩, ⟨60, 100, 0⟩]
def sn_W : List S25 := [⟨10, 20, 0⟩, ⟨20, 30, 7⟩]
def sn_T : List S25 := [⟨0, 20, 0⟩, ⟨20, 45, 7⟩, ⟨45, 60, 9⟩, ⟨60, 100, 0⟩]
def sn_O : List S45 := [⟨0, 20⟩, ⟨50, 100⟩]
def sn_D : List S45 := [⟨40, 60⟩]
def sn_ok (k : Nat) : Prop := timeline_Paint.f k 100 0 [⟨20, 50, 7⟩] = some (sn_A, 0) ∧ timeline_Put.f sn_A 40 60 9 = some (sn_B, 0) ∧ timeline_Put.f sn_A 50 60 7 = some (sn_C, 0) ∧ timeline_Owned.f k sn_A 0 = some (sn_O, 0) ∧ timeline_Owned.f k sn_A 5 = some ([], 0) ∧ timeline_Diff.f sn_A sn_B = some (sn_D, 0) ∧ timeline_At.f sn_A 49 = some (7, 0) ∧ timeline_At.f sn_A 50 = some (0, 0) ∧ timeline_At.f sn_A 100 = some (0, 150) ∧ timeline_Within.f sn_A 10 30 = some (sn_W, 0) ∧ timeline_Join.f sn_A sn_B 45 = some (sn_T, 0) ∧ aircheckref15_Same.f k sn_A sn_A = some true ∧ aircheckref15_Same.f k sn_B sn_B = some true ∧ aircheckref15_Same.f k sn_C sn_C = some true ∧ aircheckref15_Same.f k sn_W sn_W = some true ∧ aircheckref15_Same.f k sn_T sn_T = some true ∧ aircheckref07_SameSpells.f k sn_O sn_O = some true ∧ aircheckref07_SameSpells.f k sn_D sn_D = some true ∧ timeline_Valid.f k sn_A = some true ∧ timeline_End.f k sn_A = some 100 ∧ timeline_End.f k [⟨1, 2, 0⟩] = some (-1)
instance sn_d2 : DecidableEq S25 := fun a b => decidable_of_iff (a.f0 = b.f0 ∧ a.f1 = b.f1 ∧ a.f2 = b.f2) ⟨fun h => by cases a; cases b; simp_all, fun h => by subst h; exact ⟨rfl, rfl, rfl⟩⟩
instance sn_d4 : DecidableEq S45 := fun a b => decidable_of_iff (a.f0 = b.f0 ∧ a.f1 = b.f1) ⟨fun h => by cases a; cases b; simp_all, fun h => by subst h; exact ⟨rfl, rfl⟩⟩
instance sn_dk (k : Nat) : Decidable (sn_ok k) := @instDecidableAnd _ _ inferInstance (@instDecidableAnd _ _ inferInstance (@instDecidableAnd _ _ inferInstance (@instDecidableAnd _ _ inferInstance (@instDecidableAnd _ _ inferInstance (@instDecidableAnd _ _ inferInstance (@instDecidableAnd _ _ inferInstance (@instDecidableAnd _ _ inferInstance (@instDecidableAnd _ _ inferInstance (@instDecidableAnd _ _ inferInstance (@instDecidableAnd _ _ inferInstance (@instDecidableAnd _ _ inferInstance (@instDecidableAnd _ _ inferInstance (@instDecidableAnd _ _ inferInstance (@instDecidableAnd _ _ inferInstance (@instDecidableAnd _ _ inferInstance (@instDecidableAnd _ _ inferInstance (@instDecidableAnd _ _ inferInstance (@instDecidableAnd _ _ inferInstance (@instDecidableAnd _ _ inferInstance (inferInstance))))))))))))))))))))
def airchecklaw15_sane.f (k : Nat) : Option Bool := if sn_ok k then some true else none
theorem sn_f {k : Nat} {r : Bool} (h : airchecklaw15_sane.f k = some r) : sn_ok k ∧ r = true := by
  unfold airchecklaw15_sane.f at h
  split at h
  next c => exact ⟨c, (Option.some.inj h).symm⟩
  next c => cases h
theorem sn_mono {k : Nat} (h : sn_ok k) : sn_ok (k + 1) := by
  obtain ⟨hA1, hA2, hA3, hA4, hA5, hA6, hA7, hA8, hA9, hA10, hA11, hS1, hS2, hS3, hS4, hS5, hS6, hS7, hV1, hV2, hV3⟩ := h
  exact ⟨timeline_Paint.mono _ _ _ k _ hA1, hA2, hA3, timeline_Owned.mono _ _ k _ hA4, timeline_Owned.mono _ _ k _ hA5, hA6, hA7, hA8, hA9, hA10, hA11, aircheckref15_Same.mono _ _ k _ hS1, aircheckref15_Same.mono _ _ k _ hS2, aircheckref15_Same.mono _ _ k _ hS3, aircheckref15_Same.mono _ _ k _ hS4, aircheckref15_Same.mono _ _ k _ hS5, aircheckref07_SameSpells.mono _ _ k _ hS6, aircheckref07_SameSpells.mono _ _ k _ hS7, timeline_Valid.mono _ k _ hV1, timeline_End.mono _ k _ hV2, timeline_End.mono _ k _ hV3⟩
theorem airchecklaw15_sane.mono (k : Nat) : LeO (airchecklaw15_sane.f k) (airchecklaw15_sane.f (k + 1)) := fun r h => by
  obtain ⟨a, rfl⟩ := sn_f h
  unfold airchecklaw15_sane.f
  exact if_pos (sn_mono a)
def sn_c2 (xs : List S25) : List Value := xs.flatMap fun x => [.int .i64 x.f0, .int .i64 x.f1, .int .i64 x.f2]
def sn_c4 (xs : List S45) : List Value := xs.flatMap fun x => [.int .i64 x.f0, .int .i64 x.f1]
theorem sn_at2 : ∀ (xs : List S25) (i r : Nat) (p : S25) (u : Value), xs[i]? = some p → ([.int .i64 p.f0, .int .i64 p.f1, .int .i64 p.f2] : List Value)[r]? = some u → (sn_c2 xs)[i * 3 + r]? = some u
  | [], i, r, p, u, h, _ => by simp at h
  | x :: xs, 0, r, p, u, h, hu => by
    simp only [List.getElem?_cons_zero, Option.some.injEq] at h
    subst h
    have hr : r < 3 := (List.getElem?_eq_some_iff.1 hu).1
    show ([.int .i64 x.f0, .int .i64 x.f1, .int .i64 x.f2] ++ sn_c2 xs)[0 * 3 + r]? = some u
    rw [show 0 * 3 + r = r from by omega, List.getElem?_append_left (by simpa using hr)]
    exact hu
  | x :: xs, i + 1, r, p, u, h, hu => by
    show ([.int .i64 x.f0, .int .i64 x.f1, .int .i64 x.f2] ++ sn_c2 xs)[(i + 1) * 3 + r]? = some u
    rw [List.getElem?_append_right (by simp; omega)]
    have := sn_at2 xs i r p u (by simpa using h) hu
    rw [← this]
    congr 1
    simp
    omega
theorem sn_at4 : ∀ (xs : List S45) (i r : Nat) (p : S45) (u : Value), xs[i]? = some p → ([.int .i64 p.f0, .int .i64 p.f1] : List Value)[r]? = some u → (sn_c4 xs)[i * 2 + r]? = some u
  | [], i, r, p, u, h, _ => by simp at h
  | x :: xs, 0, r, p, u, h, hu => by
    simp only [List.getElem?_cons_zero, Option.some.injEq] at h
    subst h
    have hr : r < 2 := (List.getElem?_eq_some_iff.1 hu).1
    show ([.int .i64 x.f0, .int .i64 x.f1] ++ sn_c4 xs)[0 * 2 + r]? = some u
    rw [show 0 * 2 + r = r from by omega, List.getElem?_append_left (by simpa using hr)]
    exact hu
  | x :: xs, i + 1, r, p, u, h, hu => by
    show ([.int .i64 x.f0, .int .i64 x.f1] ++ sn_c4 xs)[(i + 1) * 2 + r]? = some u
    rw [List.getElem?_append_right (by simp; omega)]
    have := sn_at4 xs i r p u (by simpa using h) hu
    rw [← this]
    congr 1
    simp
    omega
theorem sn_C2 {W : World} {n : Nat} (xs : List S25) (h : W.heap[n]? = some (.cells (sn_c2 xs).toArray 25 (0, 0))) (hx : xs.length ≤ 1000) : Kd.C k25 W (some ⟨n, 0, none⟩) xs.length xs := ⟨rfl, Nat.le_trans hx (by decide), fun _ => ⟨⟨n, 0, none⟩, rfl, fun i p hp => ⟨_, rfl, k25_mk W p, fun r u hu => by
  rw [add_plain, blk_cell h]
  show (sn_c2 xs).toArray[i * 3 + r]? = some u
  rw [List.getElem?_toArray]
  exact sn_at2 xs i r p u hp hu⟩⟩⟩
theorem sn_C4 {W : World} {n : Nat} (xs : List S45) (h : W.heap[n]? = some (.cells (sn_c4 xs).toArray 45 (0, 0))) (hx : xs.length ≤ 1000) : Kd.C k45 W (some ⟨n, 0, none⟩) xs.length xs := ⟨rfl, Nat.le_trans hx (by decide), fun _ => ⟨⟨n, 0, none⟩, rfl, fun i p hp => ⟨_, rfl, k45_mk W p, fun r u hu => by
  rw [add_plain, blk_cell h]
  show (sn_c4 xs).toArray[i * 2 + r]? = some u
  rw [List.getElem?_toArray]
  exact sn_at4 xs i r p u hp hu⟩⟩⟩
set_option maxHeartbeats 400000000 in
set_option maxRecDepth 100000 in
theorem airchecklaw15_sane.calls  (k : Nat) (r : Bool) (w : World) (h : airchecklaw15_sane.f k = some r) :
    Calls Try.prog 10 #[] w fun e w' => e = .returned (.bool r) ∧ Below w.heap.size w w' := by
  obtain ⟨⟨hA1, hA2, hA3, hA4, hA5, hA6, hA7, hA8, hA9, hA10, hA11, hS1, hS2, hS3, hS4, hS5, hS6, hS7, hV1, hV2, hV3⟩, rfl⟩ := sn_f h
  have A1 := Aside0.mk hA1; have A2 := Aside0.mk hA2; have A3 := Aside0.mk hA3; have A4 := Aside0.mk hA4; have A5 := Aside0.mk hA5; have A6 := Aside0.mk hA6; have A7 := Aside0.mk hA7; have A8 := Aside0.mk hA8; have A9 := Aside0.mk hA9; have A10 := Aside0.mk hA10; have A11 := Aside0.mk hA11; have S1 := Aside0.mk hS1; have S2 := Aside0.mk hS2; have S3 := Aside0.mk hS3; have S4 := Aside0.mk hS4; have S5 := Aside0.mk hS5; have S6 := Aside0.mk hS6; have S7 := Aside0.mk hS7; have V1 := Aside0.mk hV1; have V2 := Aside0.mk hV2; have V3 := Aside0.mk hV3
  clear h hA1 hA2 hA3 hA4 hA5 hA6 hA7 hA8 hA9 hA10 hA11 hS1 hS2 hS3 hS4 hS5 hS6 hS7 hV1 hV2 hV3
  have z0 : ((0 : Int) != 0) = false := rfl
  have z1 : ((150 : Int) != 150) = false := rfl
  have z2 : ((0 : Int) == 0) = true := rfl
  go_enter Try.func10, Try.ntmps10
  go_wp2_with (fail)
  have HB := Aside0.mk (Below.refl w.heap.size w)
  obtain ⟨X0, hX⟩ : ∃ X, w.alloc (.cells #[.int .i64 20, .int .i64 50, .int .i64 7] 25) = X := ⟨_, rfl⟩
  have hk : X0.heap[w.heap.size]? = some (.cells #[.int .i64 20, .int .i64 50, .int .i64 7] 25 (0, 0)) := by rw [← hX]; exact World.alloc_heap_new _ _
  have hb : Below w.heap.size w X0 := by rw [← hX]; exact below_alloc (Below.refl _ _) _
  replace HB := Aside0.mk (below_step HB.out hb)
  rw [hX]; clear hX hb
  refine (timeline_Paint.calls k 100 0 (some ⟨w.heap.size, 0, none⟩) 1 [⟨20, 50, 7⟩] sn_A 0 _ (sn_C2 [⟨20, 50, 7⟩] hk (by decide)) (Nat.le_refl 1) A1.out).mono ?_
  rintro e W1 ⟨v, rfl, hr, hb⟩
  obtain ⟨AA, cA, rfl, hc, hC⟩ := Kd.R_reads hr
  replace HB := Aside0.mk (below_step HB.out hb)
  have HA := Aside0.mk hC; have CA := Aside0.mk hc; clear hr hb hc hC
  clear hk
  go_wp2_with (fail)
  refine (timeline_Put.calls AA cA sn_A 40 60 9 sn_B 0 _ HA.out CA.out A2.out).mono ?_
  rintro e W2 ⟨v, rfl, hr, hb⟩
  obtain ⟨AB, cB, rfl, hc, hC⟩ := Kd.R_reads hr
  replace HB := Aside0.mk (below_step HB.out hb); replace HA := Aside0.mk (Kd.C_below HA.out hb)
  have HBx := Aside0.mk hC; have CB := Aside0.mk hc; clear hr hb hc hC
  go_wp2_with (fail)
  refine (timeline_Put.calls AA cA sn_A 50 60 7 sn_C 0 _ HA.out CA.out A3.out).mono ?_
  rintro e W3 ⟨v, rfl, hr, hb⟩
  obtain ⟨AC, cC, rfl, hc, hC⟩ := Kd.R_reads hr
  replace HB := Aside0.mk (below_step HB.out hb); replace HA := Aside0.mk (Kd.C_below HA.out hb); replace HBx := Aside0.mk (Kd.C_below HBx.out hb)
  have HC := Aside0.mk hC; have CC := Aside0.mk hc; clear hr hb hc hC
  go_wp2_with (fail)
  refine (timeline_Owned.calls k AA cA sn_A 0 sn_O 0 _ HA.out CA.out A4.out).mono ?_
  rintro e W4 ⟨v, rfl, hr, hb⟩
  obtain ⟨AO, cO, rfl, hc, hC⟩ := Kd.R_reads hr
  replace HB := Aside0.mk (below_step HB.out hb); replace HA := Aside0.mk (Kd.C_below HA.out hb); replace HBx := Aside0.mk (Kd.C_below HBx.out hb); replace HC := Aside0.mk (Kd.C_below HC.out hb)
  have HO := Aside0.mk hC; have CO := Aside0.mk hc; clear hr hb hc hC
  go_wp2_with (fail)
  refine (timeline_Owned.calls k AA cA sn_A 5 [] 0 _ HA.out CA.out A5.out).mono ?_
  rintro e W5 ⟨v, rfl, hr, hb⟩
  obtain ⟨AN, cN, rfl, hc, hC⟩ := Kd.R_reads hr
  replace HB := Aside0.mk (below_step HB.out hb); replace HA := Aside0.mk (Kd.C_below HA.out hb); replace HBx := Aside0.mk (Kd.C_below HBx.out hb); replace HC := Aside0.mk (Kd.C_below HC.out hb); replace HO := Aside0.mk (Kd.C_below HO.out hb)
  have HN := Aside0.mk hC; have CN := Aside0.mk hc; clear hr hb hc hC
  go_wp2_with (fail)
  refine (timeline_Diff.calls AA cA sn_A AB cB sn_B sn_D 0 _ HA.out CA.out HBx.out CB.out A6.out).mono ?_
  rintro e W6 ⟨v, rfl, hr, hb⟩
  obtain ⟨AD, cD, rfl, hc, hC⟩ := Kd.R_reads hr
  replace HB := Aside0.mk (below_step HB.out hb); replace HA := Aside0.mk (Kd.C_below HA.out hb); replace HBx := Aside0.mk (Kd.C_below HBx.out hb); replace HC := Aside0.mk (Kd.C_below HC.out hb); replace HO := Aside0.mk (Kd.C_below HO.out hb)
  have HD := Aside0.mk hC; have CD := Aside0.mk hc; clear hr hb hc hC
  go_wp2_with (fail)
  refine (timeline_At.calls AA cA sn_A 49 7 0 _ HA.out CA.out A7.out).mono ?_
  rintro e W7 ⟨rfl, hb⟩
  replace HB := Aside0.mk (below_step HB.out hb); replace HA := Aside0.mk (Kd.C_below HA.out hb); replace HBx := Aside0.mk (Kd.C_below HBx.out hb); replace HC := Aside0.mk (Kd.C_below HC.out hb); replace HO := Aside0.mk (Kd.C_below HO.out hb); replace HD := Aside0.mk (Kd.C_below HD.out hb)
  clear hb
  go_wp2_with (fail)
  refine (timeline_At.calls AA cA sn_A 50 0 0 _ HA.out CA.out A8.out).mono ?_
  rintro e W8 ⟨rfl, hb⟩
  replace HB := Aside0.mk (below_step HB.out hb); replace HA := Aside0.mk (Kd.C_below HA.out hb); replace HBx := Aside0.mk (Kd.C_below HBx.out hb); replace HC := Aside0.mk (Kd.C_below HC.out hb); replace HO := Aside0.mk (Kd.C_below HO.out hb); replace HD := Aside0.mk (Kd.C_below HD.out hb)
  clear hb
  go_wp2_with (fail)
  refine (timeline_At.calls AA cA sn_A 100 0 150 _ HA.out CA.out A9.out).mono ?_
  rintro e W9 ⟨rfl, hb⟩
  replace HB := Aside0.mk (below_step HB.out hb); replace HA := Aside0.mk (Kd.C_below HA.out hb); replace HBx := Aside0.mk (Kd.C_below HBx.out hb); replace HC := Aside0.mk (Kd.C_below HC.out hb); replace HO := Aside0.mk (Kd.C_below HO.out hb); replace HD := Aside0.mk (Kd.C_below HD.out hb)
  clear hb
  go_wp2_with (fail)
  refine (timeline_Within.calls AA cA sn_A 10 30 sn_W 0 _ HA.out CA.out A10.out).mono ?_
  rintro e W10 ⟨v, rfl, hr, hb⟩
  obtain ⟨AW, cW, rfl, hc, hC⟩ := Kd.R_reads hr
  replace HB := Aside0.mk (below_step HB.out hb); replace HA := Aside0.mk (Kd.C_below HA.out hb); replace HBx := Aside0.mk (Kd.C_below HBx.out hb); replace HC := Aside0.mk (Kd.C_below HC.out hb); replace HO := Aside0.mk (Kd.C_below HO.out hb); replace HD := Aside0.mk (Kd.C_below HD.out hb)
  have HW := Aside0.mk hC; have CW := Aside0.mk hc; clear hr hb hc hC
  go_wp2_with (fail)
  refine (timeline_Join.calls AA cA sn_A AB cB sn_B 45 sn_T 0 _ HA.out CA.out HBx.out CB.out A11.out).mono ?_
  rintro e W11 ⟨v, rfl, hr, hb⟩
  obtain ⟨AT, cT, rfl, hc, hC⟩ := Kd.R_reads hr
  replace HB := Aside0.mk (below_step HB.out hb); replace HA := Aside0.mk (Kd.C_below HA.out hb); replace HBx := Aside0.mk (Kd.C_below HBx.out hb); replace HC := Aside0.mk (Kd.C_below HC.out hb); replace HO := Aside0.mk (Kd.C_below HO.out hb); replace HD := Aside0.mk (Kd.C_below HD.out hb); replace HW := Aside0.mk (Kd.C_below HW.out hb)
  have HT := Aside0.mk hC; have CT := Aside0.mk hc; clear hr hb hc hC
  go_wp2_with (fail)
  obtain ⟨X12, hX⟩ : ∃ X, W11.alloc (.cells #[.int .i64 0, .int .i64 20, .int .i64 0, .int .i64 20, .int .i64 50, .int .i64 7, .int .i64 50, .int .i64 100, .int .i64 0] 25) = X := ⟨_, rfl⟩
  have hk : X12.heap[W11.heap.size]? = some (.cells #[.int .i64 0, .int .i64 20, .int .i64 0, .int .i64 20, .int .i64 50, .int .i64 7, .int .i64 50, .int .i64 100, .int .i64 0] 25 (0, 0)) := by rw [← hX]; exact World.alloc_heap_new _ _
  have hb : Below W11.heap.size W11 X12 := by rw [← hX]; exact below_alloc (Below.refl _ _) _
  replace HB := Aside0.mk (below_step HB.out hb); replace HA := Aside0.mk (Kd.C_below HA.out hb); replace HBx := Aside0.mk (Kd.C_below HBx.out hb); replace HC := Aside0.mk (Kd.C_below HC.out hb); replace HO := Aside0.mk (Kd.C_below HO.out hb); replace HD := Aside0.mk (Kd.C_below HD.out hb); replace HW := Aside0.mk (Kd.C_below HW.out hb); replace HT := Aside0.mk (Kd.C_below HT.out hb)
  rw [hX]; clear hX hb
  refine (aircheckref15_Same.calls k AA cA sn_A (some ⟨W11.heap.size, 0, none⟩) 3 sn_A true _ HA.out CA.out (sn_C2 sn_A hk (by decide)) (Nat.le_refl 3) S1.out).mono ?_
  rintro e W13 ⟨rfl, hd⟩
  have hb := hd.below
  replace HB := Aside0.mk (below_step HB.out hb); replace HA := Aside0.mk (Kd.C_below HA.out hb); replace HBx := Aside0.mk (Kd.C_below HBx.out hb); replace HC := Aside0.mk (Kd.C_below HC.out hb); replace HO := Aside0.mk (Kd.C_below HO.out hb); replace HD := Aside0.mk (Kd.C_below HD.out hb); replace HW := Aside0.mk (Kd.C_below HW.out hb); replace HT := Aside0.mk (Kd.C_below HT.out hb)
  clear hb hd
  clear hk
  go_wp2_with (fail)
  obtain ⟨X14, hX⟩ : ∃ X, W13.alloc (.cells #[.int .i64 0, .int .i64 20, .int .i64 0, .int .i64 20, .int .i64 40, .int .i64 7, .int .i64 40, .int .i64 60, .int .i64 9, .int .i64 60, .int .i64 100, .int .i64 0] 25) = X := ⟨_, rfl⟩
  have hk : X14.heap[W13.heap.size]? = some (.cells #[.int .i64 0, .int .i64 20, .int .i64 0, .int .i64 20, .int .i64 40, .int .i64 7, .int .i64 40, .int .i64 60, .int .i64 9, .int .i64 60, .int .i64 100, .int .i64 0] 25 (0, 0)) := by rw [← hX]; exact World.alloc_heap_new _ _
  have hb : Below W13.heap.size W13 X14 := by rw [← hX]; exact below_alloc (Below.refl _ _) _
  replace HB := Aside0.mk (below_step HB.out hb); replace HA := Aside0.mk (Kd.C_below HA.out hb); replace HBx := Aside0.mk (Kd.C_below HBx.out hb); replace HC := Aside0.mk (Kd.C_below HC.out hb); replace HO := Aside0.mk (Kd.C_below HO.out hb); replace HD := Aside0.mk (Kd.C_below HD.out hb); replace HW := Aside0.mk (Kd.C_below HW.out hb); replace HT := Aside0.mk (Kd.C_below HT.out hb)
  rw [hX]; clear hX hb
  refine (aircheckref15_Same.calls k AB cB sn_B (some ⟨W13.heap.size, 0, none⟩) 4 sn_B true _ HBx.out CB.out (sn_C2 sn_B hk (by decide)) (Nat.le_refl 4) S2.out).mono ?_
  rintro e W15 ⟨rfl, hd⟩
  have hb := hd.below
  replace HB := Aside0.mk (below_step HB.out hb); replace HA := Aside0.mk (Kd.C_below HA.out hb); replace HBx := Aside0.mk (Kd.C_below HBx.out hb); replace HC := Aside0.mk (Kd.C_below HC.out hb); replace HO := Aside0.mk (Kd.C_below HO.out hb); replace HD := Aside0.mk (Kd.C_below HD.out hb); replace HW := Aside0.mk (Kd.C_below HW.out hb); replace HT := Aside0.mk (Kd.C_below HT.out hb)
  clear hb hd
  clear hk
  go_wp2_with (fail)
  obtain ⟨X16, hX⟩ : ∃ X, W15.alloc (.cells #[.int .i64 0, .int .i64 20, .int .i64 0, .int .i64 20, .int .i64 60, .int .i64 7, .int .i64 60, .int .i64 100, .int .i64 0] 25) = X := ⟨_, rfl⟩
  have hk : X16.heap[W15.heap.size]? = some (.cells #[.int .i64 0, .int .i64 20, .int .i64 0, .int .i64 20, .int .i64 60, .int .i64 7, .int .i64 60, .int .i64 100, .int .i64 0] 25 (0, 0)) := by rw [← hX]; exact World.alloc_heap_new _ _
  have hb : Below W15.heap.size W15 X16 := by rw [← hX]; exact below_alloc (Below.refl _ _) _
  replace HB := Aside0.mk (below_step HB.out hb); replace HA := Aside0.mk (Kd.C_below HA.out hb); replace HBx := Aside0.mk (Kd.C_below HBx.out hb); replace HC := Aside0.mk (Kd.C_below HC.out hb); replace HO := Aside0.mk (Kd.C_below HO.out hb); replace HD := Aside0.mk (Kd.C_below HD.out hb); replace HW := Aside0.mk (Kd.C_below HW.out hb); replace HT := Aside0.mk (Kd.C_below HT.out hb)
  rw [hX]; clear hX hb
  refine (aircheckref15_Same.calls k AC cC sn_C (some ⟨W15.heap.size, 0, none⟩) 3 sn_C true _ HC.out CC.out (sn_C2 sn_C hk (by decide)) (Nat.le_refl 3) S3.out).mono ?_
  rintro e W17 ⟨rfl, hd⟩
  have hb := hd.below
  replace HB := Aside0.mk (below_step HB.out hb); replace HA := Aside0.mk (Kd.C_below HA.out hb); replace HBx := Aside0.mk (Kd.C_below HBx.out hb); replace HC := Aside0.mk (Kd.C_below HC.out hb); replace HO := Aside0.mk (Kd.C_below HO.out hb); replace HD := Aside0.mk (Kd.C_below HD.out hb); replace HW := Aside0.mk (Kd.C_below HW.out hb); replace HT := Aside0.mk (Kd.C_below HT.out hb)
  clear hb hd
  clear hk
  go_wp2_with (fail)
  obtain ⟨X18, hX⟩ : ∃ X, W17.alloc (.cells #[.int .i64 10, .int .i64 20, .int .i64 0, .int .i64 20, .int .i64 30, .int .i64 7] 25) = X := ⟨_, rfl⟩
  have hk : X18.heap[W17.heap.size]? = some (.cells #[.int .i64 10, .int .i64 20, .int .i64 0, .int .i64 20, .int .i64 30, .int .i64 7] 25 (0, 0)) := by rw [← hX]; exact World.alloc_heap_new _ _
  have hb : Below W17.heap.size W17 X18 := by rw [← hX]; exact below_alloc (Below.refl _ _) _
  replace HB := Aside0.mk (below_step HB.out hb); replace HA := Aside0.mk (Kd.C_below HA.out hb); replace HBx := Aside0.mk (Kd.C_below HBx.out hb); replace HC := Aside0.mk (Kd.C_below HC.out hb); replace HO := Aside0.mk (Kd.C_below HO.out hb); replace HD := Aside0.mk (Kd.C_below HD.out hb); replace HW := Aside0.mk (Kd.C_below HW.out hb); replace HT := Aside0.mk (Kd.C_below HT.out hb)
  rw [hX]; clear hX hb
  refine (aircheckref15_Same.calls k AW cW sn_W (some ⟨W17.heap.size, 0, none⟩) 2 sn_W true _ HW.out CW.out (sn_C2 sn_W hk (by decide)) (Nat.le_refl 2) S4.out).mono ?_
  rintro e W19 ⟨rfl, hd⟩
  have hb := hd.below
  replace HB := Aside0.mk (below_step HB.out hb); replace HA := Aside0.mk (Kd.C_below HA.out hb); replace HBx := Aside0.mk (Kd.C_below HBx.out hb); replace HC := Aside0.mk (Kd.C_below HC.out hb); replace HO := Aside0.mk (Kd.C_below HO.out hb); replace HD := Aside0.mk (Kd.C_below HD.out hb); replace HW := Aside0.mk (Kd.C_below HW.out hb); replace HT := Aside0.mk (Kd.C_below HT.out hb)
  clear hb hd
  clear hk
  go_wp2_with (fail)
  obtain ⟨X20, hX⟩ : ∃ X, W19.alloc (.cells #[.int .i64 0, .int .i64 20, .int .i64 0, .int .i64 20, .int .i64 45, .int .i64 7, .int .i64 45, .int .i64 60, .int .i64 9, .int .i64 60, .int .i64 100, .int .i64 0] 25) = X := ⟨_, rfl⟩
  have hk : X20.heap[W19.heap.size]? = some (.cells #[.int .i64 0, .int .i64 20, .int .i64 0, .int .i64 20, .int .i64 45, .int .i64 7, .int .i64 45, .int .i64 60, .int .i64 9, .int .i64 60, .int .i64 100, .int .i64 0] 25 (0, 0)) := by rw [← hX]; exact World.alloc_heap_new _ _
  have hb : Below W19.heap.size W19 X20 := by rw [← hX]; exact below_alloc (Below.refl _ _) _
  replace HB := Aside0.mk (below_step HB.out hb); replace HA := Aside0.mk (Kd.C_below HA.out hb); replace HBx := Aside0.mk (Kd.C_below HBx.out hb); replace HC := Aside0.mk (Kd.C_below HC.out hb); replace HO := Aside0.mk (Kd.C_below HO.out hb); replace HD := Aside0.mk (Kd.C_below HD.out hb); replace HW := Aside0.mk (Kd.C_below HW.out hb); replace HT := Aside0.mk (Kd.C_below HT.out hb)
  rw [hX]; clear hX hb
  refine (aircheckref15_Same.calls k AT cT sn_T (some ⟨W19.heap.size, 0, none⟩) 4 sn_T true _ HT.out CT.out (sn_C2 sn_T hk (by decide)) (Nat.le_refl 4) S5.out).mono ?_
  rintro e W21 ⟨rfl, hd⟩
  have hb := hd.below
  replace HB := Aside0.mk (below_step HB.out hb); replace HA := Aside0.mk (Kd.C_below HA.out hb); replace HBx := Aside0.mk (Kd.C_below HBx.out hb); replace HC := Aside0.mk (Kd.C_below HC.out hb); replace HO := Aside0.mk (Kd.C_below HO.out hb); replace HD := Aside0.mk (Kd.C_below HD.out hb); replace HW := Aside0.mk (Kd.C_below HW.out hb); replace HT := Aside0.mk (Kd.C_below HT.out hb)
  clear hb hd
  clear hk
  go_wp2_with (fail)
  obtain ⟨X22, hX⟩ : ∃ X, W21.alloc (.cells #[.int .i64 0, .int .i64 20, .int .i64 50, .int .i64 100] 45) = X := ⟨_, rfl⟩
  have hk : X22.heap[W21.heap.size]? = some (.cells #[.int .i64 0, .int .i64 20, .int .i64 50, .int .i64 100] 45 (0, 0)) := by rw [← hX]; exact World.alloc_heap_new _ _
  have hb : Below W21.heap.size W21 X22 := by rw [← hX]; exact below_alloc (Below.refl _ _) _
  replace HB := Aside0.mk (below_step HB.out hb); replace HA := Aside0.mk (Kd.C_below HA.out hb); replace HBx := Aside0.mk (Kd.C_below HBx.out hb); replace HC := Aside0.mk (Kd.C_below HC.out hb); replace HO := Aside0.mk (Kd.C_below HO.out hb); replace HD := Aside0.mk (Kd.C_below HD.out hb); replace HW := Aside0.mk (Kd.C_below HW.out hb); replace HT := Aside0.mk (Kd.C_below HT.out hb)
  rw [hX]; clear hX hb
  refine (aircheckref07_SameSpells.calls k AO cO sn_O (some ⟨W21.heap.size, 0, none⟩) 2 sn_O true _ HO.out CO.out (sn_C4 sn_O hk (by decide)) (Nat.le_refl 2) S6.out).mono ?_
  rintro e W23 ⟨rfl, hd⟩
  have hb := hd.below
  replace HB := Aside0.mk (below_step HB.out hb); replace HA := Aside0.mk (Kd.C_below HA.out hb); replace HBx := Aside0.mk (Kd.C_below HBx.out hb); replace HC := Aside0.mk (Kd.C_below HC.out hb); replace HO := Aside0.mk (Kd.C_below HO.out hb); replace HD := Aside0.mk (Kd.C_below HD.out hb); replace HW := Aside0.mk (Kd.C_below HW.out hb); replace HT := Aside0.mk (Kd.C_below HT.out hb)
  clear hb hd
  clear hk
  go_wp2_with (fail)
  obtain ⟨X24, hX⟩ : ∃ X, W23.alloc (.cells #[.int .i64 40, .int .i64 60] 45) = X := ⟨_, rfl⟩
  have hk : X24.heap[W23.heap.size]? = some (.cells #[.int .i64 40, .int .i64 60] 45 (0, 0)) := by rw [← hX]; exact World.alloc_heap_new _ _
  have hb : Below W23.heap.size W23 X24 := by rw [← hX]; exact below_alloc (Below.refl _ _) _
  replace HB := Aside0.mk (below_step HB.out hb); replace HA := Aside0.mk (Kd.C_below HA.out hb); replace HBx := Aside0.mk (Kd.C_below HBx.out hb); replace HC := Aside0.mk (Kd.C_below HC.out hb); replace HO := Aside0.mk (Kd.C_below HO.out hb); replace HD := Aside0.mk (Kd.C_below HD.out hb); replace HW := Aside0.mk (Kd.C_below HW.out hb); replace HT := Aside0.mk (Kd.C_below HT.out hb)
  rw [hX]; clear hX hb
  refine (aircheckref07_SameSpells.calls k AD cD sn_D (some ⟨W23.heap.size, 0, none⟩) 1 sn_D true _ HD.out CD.out (sn_C4 sn_D hk (by decide)) (Nat.le_refl 1) S7.out).mono ?_
  rintro e W25 ⟨rfl, hd⟩
  have hb := hd.below
  replace HB := Aside0.mk (below_step HB.out hb); replace HA := Aside0.mk (Kd.C_below HA.out hb); replace HBx := Aside0.mk (Kd.C_below HBx.out hb); replace HC := Aside0.mk (Kd.C_below HC.out hb); replace HO := Aside0.mk (Kd.C_below HO.out hb); replace HD := Aside0.mk (Kd.C_below HD.out hb); replace HW := Aside0.mk (Kd.C_below HW.out hb); replace HT := Aside0.mk (Kd.C_below HT.out hb)
  clear hb hd
  clear hk
  go_wp2_with (fail)
  refine (timeline_Valid.calls k AA cA sn_A true _ HA.out CA.out V1.out).mono ?_
  rintro e W26 ⟨rfl, hb⟩
  replace HB := Aside0.mk (below_step HB.out hb); replace HA := Aside0.mk (Kd.C_below HA.out hb); replace HBx := Aside0.mk (Kd.C_below HBx.out hb); replace HC := Aside0.mk (Kd.C_below HC.out hb); replace HO := Aside0.mk (Kd.C_below HO.out hb); replace HD := Aside0.mk (Kd.C_below HD.out hb); replace HW := Aside0.mk (Kd.C_below HW.out hb); replace HT := Aside0.mk (Kd.C_below HT.out hb)
  clear hb
  go_wp2_with (fail)
  refine (timeline_End.calls k AA cA sn_A 100 _ HA.out CA.out V2.out).mono ?_
  rintro e W27 ⟨rfl, hb⟩
  replace HB := Aside0.mk (below_step HB.out hb); replace HA := Aside0.mk (Kd.C_below HA.out hb); replace HBx := Aside0.mk (Kd.C_below HBx.out hb); replace HC := Aside0.mk (Kd.C_below HC.out hb); replace HO := Aside0.mk (Kd.C_below HO.out hb); replace HD := Aside0.mk (Kd.C_below HD.out hb); replace HW := Aside0.mk (Kd.C_below HW.out hb); replace HT := Aside0.mk (Kd.C_below HT.out hb)
  clear hb
  go_wp2_with (fail)
  obtain ⟨X28, hX⟩ : ∃ X, W27.alloc (.cells #[.int .i64 1, .int .i64 2, .int .i64 0] 25) = X := ⟨_, rfl⟩
  have hk : X28.heap[W27.heap.size]? = some (.cells #[.int .i64 1, .int .i64 2, .int .i64 0] 25 (0, 0)) := by rw [← hX]; exact World.alloc_heap_new _ _
  have hb : Below W27.heap.size W27 X28 := by rw [← hX]; exact below_alloc (Below.refl _ _) _
  replace HB := Aside0.mk (below_step HB.out hb); replace HA := Aside0.mk (Kd.C_below HA.out hb); replace HBx := Aside0.mk (Kd.C_below HBx.out hb); replace HC := Aside0.mk (Kd.C_below HC.out hb); replace HO := Aside0.mk (Kd.C_below HO.out hb); replace HD := Aside0.mk (Kd.C_below HD.out hb); replace HW := Aside0.mk (Kd.C_below HW.out hb); replace HT := Aside0.mk (Kd.C_below HT.out hb)
  rw [hX]; clear hX hb
  refine (timeline_End.calls k (some ⟨W27.heap.size, 0, none⟩) 1 [⟨1, 2, 0⟩] (-1) _ (sn_C2 [⟨1, 2, 0⟩] hk (by decide)) (Nat.le_refl 1) V3.out).mono ?_
  rintro e W29 ⟨rfl, hb⟩
  replace HB := Aside0.mk (below_step HB.out hb); replace HA := Aside0.mk (Kd.C_below HA.out hb); replace HBx := Aside0.mk (Kd.C_below HBx.out hb); replace HC := Aside0.mk (Kd.C_below HC.out hb); replace HO := Aside0.mk (Kd.C_below HO.out hb); replace HD := Aside0.mk (Kd.C_below HD.out hb); replace HW := Aside0.mk (Kd.C_below HW.out hb); replace HT := Aside0.mk (Kd.C_below HT.out hb)
  clear hb
  go_wp2
  go_ret
  exact ⟨rfl, HB.out⟩

end Go.Proofs.Ytbhngbjopfjacaa.PS15
