-- PRINTED by print.py (a twelfth state) out of the translation. Not trusted: Lean checks it.
import Derived.Test.YtgaepndbfpfniaaPFRx0
import Derived.Test.YtgaepndbfpfniaaPFRx1
import Derived.Test.YtgaepndbfpfniaaPFRx2
import Derived.Test.YtgaepndbfpfniaaPFRx3
import Derived.Test.YtgaepndbfpfniaaPFRx6
import Derived.Test.YtgaepndbfpfniaaPFRx7
import Derived.Test.YtgaepndbfpfniaaPFRx9
import Derived.Test.YtgaepndbfpfniaaPFRx13
import Derived.Test.YtgaepndbfpfniaaPFRx18
import Derived.Test.YtgaepndbfpfniaaPFRx37
import Derived.Test.YtgaepndbfpfniaaPFRx20
import Derived.RangeFuncNested
import Derived.RangeFuncBound
import Derived.RangeFuncCalls
import Derived.RangeFuncLeaves
import Derived.RangeFuncBox
import Derived.Shelf.Abstract
import Derived.Shelf.RegionOpen
import Derived.OwnWalkIn
import Derived.TacticsInMore
import Derived.LoopNIn
import Derived.LoopIn
import Derived.OneCell
import Derived.BigQuiet
import Derived.Deep.RegionWith
import Derived.Deep.RegionHeld3
import Derived.Deep.RegionLaw
import Derived.IntWalk
import Derived.Lib.SliceRun
namespace Go.Proofs.Ytgaepndbfpfniaa.PFR
open Go.RowKit Go.Proofs.YtgaepndbfpfniaaW.PrintWords Go.Proofs.YtgaepndbfpfniaaW.PrintLast Go.Proofs.YtgaepndbfpfniaaW.PrintMore
attribute [local go_sem] max2_int min2_int max_two min_two max_three min_three max_four min_four   -- for this text's walks alone
set_option linter.unusedVariables false
set_option linter.unusedSimpArgs false

attribute [local go_sem] Oper.semAt_some
open Go.Shelf
-- given by hand: fp14
set_option maxRecDepth 100000 in
set_option maxHeartbeats 4000000 in
theorem fp_best_yes (k : Nat) (A0 : Option Addr) (c0 : Nat) (l0 : List S34) (A1 : Option Addr) (c1 : Nat) (l1 : List Int) (w : World) (hr0 : Kd.C k34 w A0 l0.length l0) (hc0 : l0.length ≤ c0) (hr1 : Kd.C (Kd.int .i64) w A1 l1.length l1) (hc1 : l1.length ≤ c1) (hl : 0 < l0.length)
  (hv : fingerprint_Valid.f k l0 = some true) (hh : fp_heardB l1 = true) (cs : List Int) (hcs : fp_costsO l1 l0 = some cs) (m : Int) (hm : slices_Min_int_int.f cs = some m) (b : Nat) (hb : slices_Index_int_int.f k cs m = some (b : Int)) (hbl : b < l0.length) (hl2 : l0.length ≤ 1000) (x : S34) (hx : rd_T34 l0 (b : Int) = x)
  (a1 a2 a3 a4 : Int) (a5 : List Int) (a6 : Int) (ha : fingerprint_Align.f k l1 x.f1 = some (a1, a2, a3, a4, a5, a6)) (s : Int) (hs : fp_second (cs.eraseIdx b) = some s) :
  Calls Try.prog 34 #[.slice A0 l0.length c0, .slice A1 l1.length c1] w fun e w' => ∃ v4_ : Value, e = .returned (.tuple #[.agg #[.int .i64 x.f0, .int .i64 a2, .int .i64 a3, .int .i64 a4, v4_], .int .i64 s, .int .i64 0]) ∧ Kd.R (Kd.int .i64) 3 w' w.heap.size (fun _ => True) v4_ a5 ∧ Below w.heap.size w w' := by
 have hbx := World.alloc_heap_new w (.cells #[.int .i64 0, .int .i64 0, .int .i64 0, .int .i64 0, .slice none 0 0] 25)
 have hb0 : Below w.heap.size w (w.alloc (.cells #[.int .i64 0, .int .i64 0, .int .i64 0, .int .i64 0, .slice none 0 0] 25)) := below_alloc (Below.refl _ _) _
 have t1 : decide ((l0.length : Int) = 0) = false := decide_eq_false (by omega)
 have t2 : ((l0.length : Int) == 0) = false := by simp; intro e; rw [e] at hl; simp at hl
 have t3 : ¬ (l0 = []) := fun e => by rw [e] at hl; cases hl
 have HR0 := Aside0.mk hr0
 have HC0 := Aside0.mk hc0
 have HR1 := Aside0.mk hr1
 have HC1 := Aside0.mk hc1
 have HBX := Aside0.mk hbx
 have HB0 := Aside0.mk hb0
 have HV := Aside0.mk hv
 have HH := Aside0.mk (show (decide ((l1.length : Int) ≤ 60) && fp_codesB (-1) l1) = true from hh)
 have HCS := Aside0.mk hcs
 have HM := Aside0.mk hm
 have HBI := Aside0.mk hb
 have HAL := Aside0.mk ha
 have HSE := Aside0.mk hs
 have HBL := Aside0.mk hbl
 have HL2 := Aside0.mk hl2
 have HXX := Aside0.mk hx
 have hl1 := fp_heardB_len hh
 have HL1 := Aside0.mk hl1
 clear hr0 hc0 hr1 hc1 hl hv hbx hb0 hh hcs hm hb ha hs hbl hl2 hl1 hx
 go_enter Try.func34, Try.ntmps34
 go_wp2_with fail
 refine (fingerprint_Valid.calls k A0 c0 l0 true _ (Kd.C_below HR0.out HB0.out) HC0.out HV.out).mono ?_
 rintro e w1 ⟨rfl, hb1⟩
 have HB1 := Aside0.mk (below_step HB0.out hb1)
 have HBX1 := Aside0.mk (blk_below HBX.out hb1)
 clear hb1
 go_wp2_with fail
 refine (fp_heard A1 c1 l1 _ (Kd.C_below HR1.out HB1.out)).mono ?_
 rintro e w2 ⟨rfl, hb2⟩
 rw [HH.out]
 have HB2 := Aside0.mk (below_step HB1.out hb2)
 have HBX2 := Aside0.mk (blk_below HBX1.out hb2)
 clear hb2 HB1 HBX1 HB0 HBX HV HH
 go_wp2
 go_loopw [7, 31] (fun o p wr => ∃ (j : Nat) (out rest : List Int), j ≤ l0.length ∧ p = .int .i64 j ∧ Aside0 (Kd.R (Kd.int .i64) 3 wr w.heap.size (fun k => k ≠ w.heap.size) o out) ∧ Aside0 (fp_costsO l1 (l0.drop j) = some rest ∧ out ++ rest = cs ∧ out.length = j) ∧ Aside0 (Below w.heap.size w wr) ∧ Aside0 (wr.heap[w.heap.size]? = some (.cells #[.int .i64 0, .int .i64 0, .int .i64 0, .int .i64 0, .slice none 0 0] 25 (0, 0)))) (fun _ p _ => l0.length - (intOf p).toNat)
 case atStart => exact ⟨0, [], cs, Nat.zero_le _, rfl, ⟨Kd.R_nil _ _ _ _ _⟩, ⟨HCS.out, rfl, rfl⟩, HB2, HBX2⟩
 case round =>
  obtain ⟨j, out, rest, hj, rfl, HRO, HE, HBR, HBXR⟩ := hrel
  obtain ⟨Ao, co, rfl⟩ := Kd.R_slice HRO.out
  by_cases hlt : j < l0.length
  ·have hj1 : (j : Int) < l0.length := by omega
   have hj2 : (0 : Int) ≤ j := by omega
   have hl2 := HL2.out
   obtain ⟨ad, A2, c2, rfl, hx0, hx1, hx2, hx3⟩ := at_T34 (Kd.C_below HR0.out HBR.out) (j : Int) hj2 hj1
   obtain ⟨L, mm, c, rest', g1, g2, g3, g4, g5⟩ := fp_costsO_step hlt HE.out.1
   obtain ⟨x, hx⟩ : ∃ x, rd_T34 l0 ↑j = x := ⟨_, rfl⟩
   rw [hx] at hx0 hx1 hx2 hx3 g1
   rw [Int.toNat_natCast] at hx0 hx1
   have G1 := Aside0.mk g1
   have G2 := Aside0.mk g2
   have G3 := Aside0.mk g3
   have G4 := Aside0.mk g4
   have HX2 := Aside0.mk hx2
   have HX3 := Aside0.mk hx3
   clear g1 g2 g3 g4 g5 hx hx2 hx3
   go_wp2_with fail
   have hbn : Below wr.heap.size wr (wr.alloc (.cells #[.int .i64 x.f0, .slice A2 x.f1.length c2] 34)) := below_alloc (Below.refl _ _) _
   have HBN := Aside0.mk hbn
   clear hbn hx0 hx1
   refine (fingerprint_last.calls A1 c1 l1 A2 c2 x.f1 true L _ (Kd.C_below (Kd.C_below HR1.out HBR.out) HBN.out) HC1.out (Kd.C_below HX3.out HBN.out) HX2.out G1.out).mono ?_
   rintro e w3 ⟨v3, rfl, hr3, hb3⟩
   obtain ⟨A3, c3, rfl⟩ := Kd.R_slice hr3
   have HR3 := Aside0.mk (Kd.R_reads' hr3).2
   have HB3 := Aside0.mk (below_step HBN.out hb3)
   clear hr3 hb3
   go_wp2_with fail
   refine (slices_Min_int_int.calls A3 c3 L c _ HR3.out.2 HR3.out.1 G2.out).mono ?_
   rintro e w4 ⟨rfl, hb4⟩
   have HB4 := Aside0.mk (below_step HB3.out hb4)
   have HBW := Aside0.mk (below_step HBR.out HB4.out)
   have HBX4 := Aside0.mk (blk_below HBXR.out HB4.out)
   have HRO4 := Aside0.mk (Kd.R_below HRO.out HB4.out)
   have hlen : out.length ≤ 1000 := by have := HE.out.2.2; have := HL2.out; omega
   clear hb4
   go_wp2_with (at_builtin; refine Kd.R_append (Kd.int .i64) (w0 := w) w.heap.size rfl (.tmp 35) (.tmp 41) 22 3 (.int .i64 0) 8 rfl Try.underlying22 info3 rfl (by decide) (by decide) (.slice Ao out.length co) out c [.int .i64 c] (fun k => k ≠ w.heap.size) (fun _ => False) rfl rfl rfl (fun _ h => h.elim) (fun k hk => by have := blk_lt HBX4.out; omega) HRO4.out HBW.out HBW.out.size (by omega) ?_; intro v5 w5 hr5 hb5 hg5 _; have HR5 := Aside0.mk hr5; have HB5 := Aside0.mk hb5; have HBX5 := Aside0.mk (blk_grown HBX4.out hg5 (fun e => HRO4.out.1 _ e.symm rfl)); clear hr5 hb5 hg5)
   go_roundw
   case rel => exact ⟨j + 1, out ++ [c], rest', by omega, by go_num, HR5, ⟨G3.out, by have h1 := HE.out.2.1; rw [G4.out] at h1; rw [← h1]; simp, by have := HE.out.2.2; simp; omega⟩, HB5, HBX5⟩
   case measure => simp [intOf]; omega
  ·have HO := Aside0.mk (show out = cs ∧ cs.length = l0.length by
    have h1 := HE.out
    rw [List.drop_eq_nil_of_le (by omega)] at h1
    cases h1.1
    have h2 := h1.2.1
    simp at h2
    exact ⟨h2, by rw [← h2]; omega⟩)
   have hocs := HO.out.1
   subst hocs
   obtain ⟨ad, A2, c2, rfl, hx0, hx1, hx2, hx3⟩ := at_T34 (Kd.C_below HR0.out HBR.out) (b : Int) (by omega) (by have := HBL.out; omega)
   have hbl1 : (b : Int) < l0.length := by have := HBL.out; omega
   have hbl2 : (0 : Int) ≤ b := by omega
   have hlo : out.length = l0.length := HO.out.2
   have hl2 := HL2.out
   rw [HXX.out, Int.toNat_natCast] at hx0
   rw [HXX.out, Int.toNat_natCast] at hx1
   rw [HXX.out] at hx2 hx3
   have HX2 := Aside0.mk hx2
   have HX3 := Aside0.mk hx3
   have HX0 := Aside0.mk hx0
   have HX1 := Aside0.mk hx1
   have HLO := Aside0.mk hlo
   clear hx2 hx3 hx0 hx1 hlo
   go_wp2_with fail
   refine (slices_Min_int_int.calls Ao co out m _ (Kd.R_reads' HRO.out).2.2 (Kd.R_reads' HRO.out).2.1 HM.out).mono ?_
   rintro e w3 ⟨rfl, hb3⟩
   have HB3 := Aside0.mk hb3
   clear hb3
   go_wp2_with fail
   refine (slices_Index_int_int.calls k Ao co out m (b : Int) _ (Kd.C_below (Kd.R_reads' HRO.out).2.2 HB3.out) (Kd.R_reads' HRO.out).2.1 HBI.out).mono ?_
   rintro e w4 ⟨rfl, hd4⟩
   have HB4 := Aside0.mk (below_step HB3.out hd4.below)
   have HBX4 := Aside0.mk (blk_below HBXR.out HB4.out)
   have hx0 := pw_cell_below HB4.out HX0.out
   have hx1 := pw_cell_below HB4.out HX1.out
   clear hd4
   go_wp2_with fail
   refine (fingerprint_Align.calls k A1 c1 l1 A2 c2 x.f1 a1 a2 a3 a4 a5 a6 _ (Kd.C_below (Kd.C_below HR1.out HBR.out) HB4.out) HC1.out (Kd.C_below HX3.out HB4.out) HX2.out HAL.out).mono ?_
   rintro e w5 ⟨v5, rfl, hr5, hb5⟩
   obtain ⟨A5, c5, rfl⟩ := Kd.R_slice hr5
   have HR5 := Aside0.mk hr5
   have HB5 := Aside0.mk (below_step HB4.out hb5)
   have HBX5 := Aside0.mk (blk_below HBX4.out hb5)
   have hx0b := pw_cell_below HB5.out HX0.out
   have HS4 := Aside0.mk HB4.out.size
   clear hr5 hb5 hx0 hx1
   have hnew : ∀ o, (w5.alloc o).cell? (ad.add (b * 2)) = some (.int .i64 x.f0) := fun o => pw_cell_below (below_alloc (Below.refl _ _) o) hx0b
   go_wp2_with fail
   have hlo : out.length = l0.length := HLO.out
   obtain ⟨g, cap, hv, hg1, hg2, _⟩ := Kd.R_form HRO.out (by rw [hlo]; have := HBL.out; omega)
   injection hv with hv1 hv2 hv3
   subst hv1 hv3
   have hgB : g ≠ w.heap.size := HRO.out.1 g rfl
   have hb6 : Below wr.heap.size wr (w5.alloc (.cells #[.int .i64 x.f0, .int .i64 a2, .int .i64 a3, .int .i64 a4, .slice A5 a5.length c5] 25)) := below_alloc HB5.out _
   have hbw6 := below_step HBR.out hb6
   have hm6 := World.alloc_heap_new w5 (.cells #[.int .i64 x.f0, .int .i64 a2, .int .i64 a3, .int .i64 a4, .slice A5 a5.length c5] 25)
   have hdel := fp_delete g out.length co b w.heap.size (fun k => k ≠ w.heap.size) out _ (Kd.R_below HRO.out hb6) (by rw [hlo]; exact HBL.out) (by omega) hbw6.size
   have HDEL := Aside0.mk hdel
   have HM6 := Aside0.mk hm6
   have HBW6 := Aside0.mk hbw6
   have HBX6 := Aside0.mk (blk_alloc HBX5.out (.cells #[.int .i64 x.f0, .int .i64 a2, .int .i64 a3, .int .i64 a4, .slice A5 a5.length c5] 25))
   have HR6 := Aside0.mk (Kd.R_alloc HR5.out (.cells #[.int .i64 x.f0, .int .i64 a2, .int .i64 a3, .int .i64 a4, .slice A5 a5.length c5] 25))
   have HS5 := Aside0.mk HB5.out.size
   have HG := Aside0.mk hg2
   have HGB := Aside0.mk hgB
   have hel : (out.eraseIdx b).length = out.length - 1 := by rw [List.length_eraseIdx_of_lt (by rw [hlo]; exact HBL.out)]
   have HEL := Aside0.mk hel
   clear hlo hg1 hg2 hgB hb6 hbw6 hm6 hdel hel hx0b hnew hv2
   refine HDEL.out.mono ?_
   rintro e w7 ⟨rfl, hr7, hb7, hk7⟩
   have HR7 := Aside0.mk hr7
   have HB7 := Aside0.mk (HBW6.out.trans hb7)
   have HM7 := Aside0.mk ((hk7 w5.heap.size (by simp) (by have := HG.out; have := HS5.out; omega)).trans HM6.out)
   have HBX7 := Aside0.mk ((hk7 w.heap.size (blk_lt HBX6.out) (fun e => HGB.out e.symm)).trans HBX6.out)
   have HRR7 := Aside0.mk (Kd.R_step (Kd.R_bound HR6.out) (fun k hk hlt => hk7 k hlt (by have := hk.2.1; have := HG.out; have := HS4.out; omega)))
   clear hr7 hb7 hk7 HDEL HM6 HR6 HBX6
   by_cases hz : out.length - 1 = 0
   ·have HSS := Aside0.mk (show s = -1 by
     have h1 := HSE.out
     rw [List.eq_nil_of_length_eq_zero (show (out.eraseIdx b).length = 0 by rw [HEL.out]; exact hz)] at h1
     exact (Option.some.inj h1).symm)
    rw [hz] at HR7 ⊢
    have x0 : w7.cell? ⟨w5.heap.size, 0, none⟩ = some (.int .i64 x.f0) := (blk_cell HM7.out 0).trans rfl
    have x1 : w7.cell? ⟨w5.heap.size, 1, none⟩ = some (.int .i64 a2) := (blk_cell HM7.out 1).trans rfl
    have x2 : w7.cell? ⟨w5.heap.size, 2, none⟩ = some (.int .i64 a3) := (blk_cell HM7.out 2).trans rfl
    have x3 : w7.cell? ⟨w5.heap.size, 3, none⟩ = some (.int .i64 a4) := (blk_cell HM7.out 3).trans rfl
    have x4 : w7.cell? ⟨w5.heap.size, 4, none⟩ = some (.slice A5 a5.length c5) := (blk_cell HM7.out 4).trans rfl
    have p0 : w7.cell? ⟨w.heap.size, 0, none⟩ = some (.int .i64 0) := (blk_cell HBX7.out 0).trans rfl
    have p1 : w7.cell? ⟨w.heap.size, 1, none⟩ = some (.int .i64 0) := (blk_cell HBX7.out 1).trans rfl
    have p2 : w7.cell? ⟨w.heap.size, 2, none⟩ = some (.int .i64 0) := (blk_cell HBX7.out 2).trans rfl
    have p3 : w7.cell? ⟨w.heap.size, 3, none⟩ = some (.int .i64 0) := (blk_cell HBX7.out 3).trans rfl
    have p4 : w7.cell? ⟨w.heap.size, 4, none⟩ = some (.slice none 0 0) := (blk_cell HBX7.out 4).trans rfl
    have z0 := blk_frozen HBX7.out 0
    have z1 := blk_frozen HBX7.out 1
    have z2 := blk_frozen HBX7.out 2
    have z3 := blk_frozen HBX7.out 3
    have z4 := blk_frozen HBX7.out 4
    go_wp2
    have hfin := fp_put5_blk HBX7.out (.int .i64 x.f0) (.int .i64 a2) (.int .i64 a3) (.int .i64 a4) (.slice A5 a5.length c5)
    have hbel := fp_put5_below HB7.out (Nat.le_refl _) (.int .i64 x.f0) (.int .i64 a2) (.int .i64 a3) (.int .i64 a4) (.slice A5 a5.length c5)
    have hrr := Kd.R_step (w1 := fp_put5 w7 w.heap.size (.int .i64 x.f0) (.int .i64 a2) (.int .i64 a3) (.int .i64 a4) (.slice A5 a5.length c5)) (Kd.R_bound HRR7.out) (fun k hk _ => fp_put5_far _ (by have := hk.2.1; have := HS4.out; have := HG.out; have := HBR.out.size; have := blk_lt HBXR.out; omega) _ _ _ _ _)
    obtain ⟨W5, hW5⟩ : ∃ W5, fp_put5 w7 w.heap.size (.int .i64 x.f0) (.int .i64 a2) (.int .i64 a3) (.int .i64 a4) (.slice A5 a5.length c5) = W5 := ⟨_, rfl⟩
    rw [hW5] at hfin hbel hrr
    have y0 : W5.cell? ⟨w.heap.size, 0, none⟩ = some (.int .i64 x.f0) := (blk_cell hfin 0).trans rfl
    have y1 : W5.cell? ⟨w.heap.size, 1, none⟩ = some (.int .i64 a2) := (blk_cell hfin 1).trans rfl
    have y2 : W5.cell? ⟨w.heap.size, 2, none⟩ = some (.int .i64 a3) := (blk_cell hfin 2).trans rfl
    have y3 : W5.cell? ⟨w.heap.size, 3, none⟩ = some (.int .i64 a4) := (blk_cell hfin 3).trans rfl
    have y4 : W5.cell? ⟨w.heap.size, 4, none⟩ = some (.slice A5 a5.length c5) := (blk_cell hfin 4).trans rfl
    rw [show ((((w7.setCell ⟨w.heap.size, 0, none⟩ (.int .i64 x.f0)).setCell ⟨w.heap.size, 1, none⟩ (.int .i64 a2)).setCell ⟨w.heap.size, 2, none⟩ (.int .i64 a3)).setCell ⟨w.heap.size, 3, none⟩ (.int .i64 a4)).setCell ⟨w.heap.size, 4, none⟩ (.slice A5 a5.length c5) = W5 from hW5]
    exact bodyPost_ret (v := .tuple #[.agg #[.int .i64 x.f0, .int .i64 a2, .int .i64 a3, .int .i64 a4, .slice A5 a5.length c5], .int .i64 (-1), .int .i64 0]) (by simp [results, Try.f34, go_sem, y0, y1, y2, y3, y4]) rfl ⟨_, by rw [HSS.out], Kd.R_mono (Kd.R_lower hrr (by have := HS4.out; have := HBR.out.size; omega)) (fun _ _ => trivial), hbel⟩
   ·obtain ⟨q, hq⟩ : ∃ q, out.length - 1 = q + 1 := ⟨out.length - 2, by omega⟩
    have hss : slices_Min_int_int.f (out.eraseIdx b) = some s := by
     have h1 := HSE.out
     cases e : out.eraseIdx b with
     | nil => have h2 := HEL.out; rw [e, hq] at h2; simp at h2
     | cons y ys => rw [e] at h1; exact h1
    have hr7 := HR7.out
    have hread := (Kd.R_reads' hr7).2
    have hmin := slices_Min_int_int.calls (some ⟨g, 0, none⟩) co (out.eraseIdx b) s w7 hread.2 (by rw [HEL.out]; exact hread.1) hss
    rw [HEL.out, hq] at hmin
    have HMIN := Aside0.mk hmin
    have hgt : decide ((0 : Int) < (q : Int) + 1) = true := decide_eq_true (by omega)
    clear hss hr7 hread hmin
    rw [hq]
    clear hz
    go_wp2_with fail
    refine HMIN.out.mono ?_
    rintro e w8 ⟨rfl, hb8⟩
    have HB8 := Aside0.mk (below_step HB7.out hb8)
    have HM8 := Aside0.mk (blk_below HM7.out hb8)
    have HBX8 := Aside0.mk (blk_below HBX7.out hb8)
    have HRR8 := Aside0.mk (Kd.R_below HRR7.out hb8)
    clear hb8
    have x0 : w8.cell? ⟨w5.heap.size, 0, none⟩ = some (.int .i64 x.f0) := (blk_cell HM8.out 0).trans rfl
    have x1 : w8.cell? ⟨w5.heap.size, 1, none⟩ = some (.int .i64 a2) := (blk_cell HM8.out 1).trans rfl
    have x2 : w8.cell? ⟨w5.heap.size, 2, none⟩ = some (.int .i64 a3) := (blk_cell HM8.out 2).trans rfl
    have x3 : w8.cell? ⟨w5.heap.size, 3, none⟩ = some (.int .i64 a4) := (blk_cell HM8.out 3).trans rfl
    have x4 : w8.cell? ⟨w5.heap.size, 4, none⟩ = some (.slice A5 a5.length c5) := (blk_cell HM8.out 4).trans rfl
    have p0 : w8.cell? ⟨w.heap.size, 0, none⟩ = some (.int .i64 0) := (blk_cell HBX8.out 0).trans rfl
    have p1 : w8.cell? ⟨w.heap.size, 1, none⟩ = some (.int .i64 0) := (blk_cell HBX8.out 1).trans rfl
    have p2 : w8.cell? ⟨w.heap.size, 2, none⟩ = some (.int .i64 0) := (blk_cell HBX8.out 2).trans rfl
    have p3 : w8.cell? ⟨w.heap.size, 3, none⟩ = some (.int .i64 0) := (blk_cell HBX8.out 3).trans rfl
    have p4 : w8.cell? ⟨w.heap.size, 4, none⟩ = some (.slice none 0 0) := (blk_cell HBX8.out 4).trans rfl
    have z0 := blk_frozen HBX8.out 0
    have z1 := blk_frozen HBX8.out 1
    have z2 := blk_frozen HBX8.out 2
    have z3 := blk_frozen HBX8.out 3
    have z4 := blk_frozen HBX8.out 4
    go_wp2
    have hfin := fp_put5_blk HBX8.out (.int .i64 x.f0) (.int .i64 a2) (.int .i64 a3) (.int .i64 a4) (.slice A5 a5.length c5)
    have hbel := fp_put5_below HB8.out (Nat.le_refl _) (.int .i64 x.f0) (.int .i64 a2) (.int .i64 a3) (.int .i64 a4) (.slice A5 a5.length c5)
    have hrr := Kd.R_step (w1 := fp_put5 w8 w.heap.size (.int .i64 x.f0) (.int .i64 a2) (.int .i64 a3) (.int .i64 a4) (.slice A5 a5.length c5)) (Kd.R_bound HRR8.out) (fun k hk _ => fp_put5_far _ (by have := hk.2.1; have := HS4.out; have := HG.out; have := HBR.out.size; have := blk_lt HBXR.out; omega) _ _ _ _ _)
    obtain ⟨W5, hW5⟩ : ∃ W5, fp_put5 w8 w.heap.size (.int .i64 x.f0) (.int .i64 a2) (.int .i64 a3) (.int .i64 a4) (.slice A5 a5.length c5) = W5 := ⟨_, rfl⟩
    rw [hW5] at hfin hbel hrr
    have y0 : W5.cell? ⟨w.heap.size, 0, none⟩ = some (.int .i64 x.f0) := (blk_cell hfin 0).trans rfl
    have y1 : W5.cell? ⟨w.heap.size, 1, none⟩ = some (.int .i64 a2) := (blk_cell hfin 1).trans rfl
    have y2 : W5.cell? ⟨w.heap.size, 2, none⟩ = some (.int .i64 a3) := (blk_cell hfin 2).trans rfl
    have y3 : W5.cell? ⟨w.heap.size, 3, none⟩ = some (.int .i64 a4) := (blk_cell hfin 3).trans rfl
    have y4 : W5.cell? ⟨w.heap.size, 4, none⟩ = some (.slice A5 a5.length c5) := (blk_cell hfin 4).trans rfl
    rw [show ((((w8.setCell ⟨w.heap.size, 0, none⟩ (.int .i64 x.f0)).setCell ⟨w.heap.size, 1, none⟩ (.int .i64 a2)).setCell ⟨w.heap.size, 2, none⟩ (.int .i64 a3)).setCell ⟨w.heap.size, 3, none⟩ (.int .i64 a4)).setCell ⟨w.heap.size, 4, none⟩ (.slice A5 a5.length c5) = W5 from hW5]
    exact bodyPost_ret (v := .tuple #[.agg #[.int .i64 x.f0, .int .i64 a2, .int .i64 a3, .int .i64 a4, .slice A5 a5.length c5], .int .i64 s, .int .i64 0]) (by simp [results, Try.f34, go_sem, y0, y1, y2, y3, y4]) rfl ⟨_, rfl, Kd.R_mono (Kd.R_lower hrr (by have := HS4.out; have := HBR.out.size; omega)) (fun _ _ => trivial), hbel⟩
theorem fingerprint_Best.calls (k : Nat) (A0 : Option Addr) (c0 : Nat) (l0 : List S34) (A1 : Option Addr) (c1 : Nat) (l1 : List Int) (r1 r2 r3 r4 : Int) (r5 : List Int) (r6 r7 : Int) (w : World) (hr0 : Kd.C k34 w A0 l0.length l0) (hc0 : l0.length ≤ c0) (hr1 : Kd.C (Kd.int .i64) w A1 l1.length l1) (hc1 : l1.length ≤ c1) (h : fingerprint_Best.f k l0 l1 = some (r1, r2, r3, r4, r5, r6, r7)) :
  Calls Try.prog 34 #[.slice A0 l0.length c0, .slice A1 l1.length c1] w fun e w' => ∃ v4_ : Value, e = .returned (.tuple #[.agg #[.int .i64 r1, .int .i64 r2, .int .i64 r3, .int .i64 r4, v4_], .int .i64 r6, .int .i64 r7]) ∧ Kd.R (Kd.int .i64) 3 w' w.heap.size (fun _ => True) v4_ r5 ∧ Below w.heap.size w w' := by
 unfold fingerprint_Best.f at h
 by_cases hl : l0.length = 0
 ·rw [if_pos hl] at h
  cases h
  rw [hl]
  refine (fp_best_nil A0 c0 A1 c1 l1 w).mono ?_
  rintro e w' ⟨rfl, hb⟩
  exact ⟨_, rfl, Kd.R_nil _ _ _ _ _, hb⟩
 ·rw [if_neg hl] at h
  obtain ⟨v, hv, h⟩ := Option.bind_eq_some_iff.1 h
  cases v with
  | false =>
   rw [if_neg (by simp)] at h
   cases h
   refine (fp_best_bad k A0 c0 l0 A1 c1 l1 w hr0 hc0 hr1 hc1 (by omega) hv).mono ?_
   rintro e w' ⟨rfl, hb⟩
   exact ⟨_, rfl, Kd.R_nil _ _ _ _ _, hb⟩
  | true =>
   rw [if_pos rfl] at h
   obtain ⟨hh, hhe, h⟩ := Option.bind_eq_some_iff.1 h
   replace hhe : fp_heardB l1 = hh := Option.some.inj hhe
   cases hh with
   | false =>
    rw [if_neg (by simp)] at h
    cases h
    refine (fp_best_deaf k A0 c0 l0 A1 c1 l1 w hr0 hc0 hr1 hc1 (by omega) hv hhe).mono ?_
    rintro e w' ⟨rfl, hb⟩
    exact ⟨_, rfl, Kd.R_nil _ _ _ _ _, hb⟩
   | true =>
    rw [if_pos rfl] at h
    obtain ⟨cs, hcs, h⟩ := Option.bind_eq_some_iff.1 h
    obtain ⟨m, hm, h⟩ := Option.bind_eq_some_iff.1 h
    obtain ⟨b, hb, h⟩ := Option.bind_eq_some_iff.1 h
    unfold fp_best2 at h
    by_cases hbb : 0 ≤ b ∧ b < (l0.length : Int) ∧ l0.length ≤ 1000
    ·rw [if_pos hbb] at h
     obtain ⟨a, ha, h⟩ := Option.bind_eq_some_iff.1 h
     obtain ⟨s, hs, h⟩ := Option.bind_eq_some_iff.1 h
     cases h
     obtain ⟨b, rfl⟩ := Int.eq_ofNat_of_zero_le hbb.1
     exact fp_best_yes k A0 c0 l0 A1 c1 l1 w hr0 hc0 hr1 hc1 (by omega) hv hhe cs hcs m hm b hb (by omega) hbb.2.2 _ rfl a.1 a.2.1 a.2.2.1 a.2.2.2.1 a.2.2.2.2.1 a.2.2.2.2.2 ha _ hs
    ·rw [if_neg hbb] at h; cases h

end Go.Proofs.Ytgaepndbfpfniaa.PFR
