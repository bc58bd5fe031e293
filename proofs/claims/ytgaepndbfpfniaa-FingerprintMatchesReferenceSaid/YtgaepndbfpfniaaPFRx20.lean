-- PRINTED by print.py (a twelfth state) out of the translation. Not trusted: Lean checks it.
import Derived.Test.YtgaepndbfpfniaaPFRx0
import Derived.Test.YtgaepndbfpfniaaPFRx1
import Derived.Test.YtgaepndbfpfniaaPFRx2
import Derived.Test.YtgaepndbfpfniaaPFRx9
import Derived.RangeFuncNested
import Derived.RangeFuncBound
import Derived.RangeFuncCalls
import Derived.RangeFuncLeaves
import Derived.RangeFuncBox
import Derived.Shelf.Abstract
import Derived.Shelf.RegionOpen
import Derived.OwnWalkIn
import Derived.TacticsInMore
import Derived.LoopNIn
import Derived.LoopIn
import Derived.OneCell
import Derived.BigQuiet
import Derived.Deep.RegionWith
import Derived.Deep.RegionHeld3
import Derived.Deep.RegionLaw
import Derived.IntWalk
import Derived.Lib.SliceRun
namespace Go.Proofs.Ytgaepndbfpfniaa.PFR
open Go.RowKit Go.Proofs.YtgaepndbfpfniaaW.PrintWords Go.Proofs.YtgaepndbfpfniaaW.PrintLast Go.Proofs.YtgaepndbfpfniaaW.PrintMore
attribute [local go_sem] max2_int min2_int max_two min_two max_three min_three max_four min_four   -- for this text's walks alone
set_option linter.unusedVariables false
set_option linter.unusedSimpArgs false

attribute [local go_sem] Oper.semAt_some
open Go.Shelf
-- given by hand: fp13
def fp_zeroM : Value := .agg #[.int .i64 0, .int .i64 0, .int .i64 0, .int .i64 0, .slice none 0 0]
def fp_zeroC : Array Value := #[.int .i64 0, .int .i64 0, .int .i64 0, .int .i64 0, .slice none 0 0]
set_option maxRecDepth 100000 in
set_option maxHeartbeats 4000000 in
theorem fp_best_nil (A0 : Option Addr) (c0 : Nat) (A1 : Option Addr) (c1 : Nat) (l1 : List Int) (w : World) :
  Calls Try.prog 34 #[.slice A0 0 c0, .slice A1 l1.length c1] w fun e w' => e = .returned (.tuple #[.agg #[.int .i64 0, .int .i64 0, .int .i64 0, .int .i64 0, .slice none 0 0], .int .i64 0, .int .i64 360]) ∧ Below w.heap.size w w' := by
 go_enter Try.func34, Try.ntmps34
 go_wp2
 exact bodyPost_ret (v := .tuple #[.agg #[.int .i64 0, .int .i64 0, .int .i64 0, .int .i64 0, .slice none 0 0], .int .i64 0, .int .i64 360]) (by simp [results, Try.f34, go_sem]) rfl ⟨rfl, by repeat (first | exact Below.refl _ _ | apply below_alloc | refine Below.setCell ?_ (p := ⟨w.heap.size, _, none⟩) (Nat.le_refl _) _)⟩
def fp_put5 (W : World) (B : Nat) (v0 v1 v2 v3 v4 : Value) : World := ((((W.setCell ⟨B, 0, none⟩ v0).setCell ⟨B, 1, none⟩ v1).setCell ⟨B, 2, none⟩ v2).setCell ⟨B, 3, none⟩ v3).setCell ⟨B, 4, none⟩ v4
theorem fp_put5_blk {W : World} {B : Nat} {a0 a1 a2 a3 a4 : Value} (h : W.heap[B]? = some (.cells #[a0, a1, a2, a3, a4] 25 (0, 0))) (v0 v1 v2 v3 v4 : Value) : (fp_put5 W B v0 v1 v2 v3 v4).heap[B]? = some (.cells #[v0, v1, v2, v3, v4] 25 (0, 0)) := by
 have h5 := blk_set (blk_set (blk_set (blk_set (blk_set h 0 v0) 1 v1) 2 v2) 3 v3) 4 v4
 exact h5
theorem fp_put5_far (W : World) {B k : Nat} (h : k ≠ B) (v0 v1 v2 v3 v4 : Value) : (fp_put5 W B v0 v1 v2 v3 v4).heap[k]? = W.heap[k]? := by
 unfold fp_put5
 rw [Below.heap_setCell _ _ _ _ h, Below.heap_setCell _ _ _ _ h, Below.heap_setCell _ _ _ _ h, Below.heap_setCell _ _ _ _ h, Below.heap_setCell _ _ _ _ h]
theorem fp_put5_below {w W : World} {B : Nat} (h : Below w.heap.size w W) (hB : w.heap.size ≤ B) (v0 v1 v2 v3 v4 : Value) : Below w.heap.size w (fp_put5 W B v0 v1 v2 v3 v4) :=
 ((((h.setCell (p := ⟨B, 0, none⟩) hB _).setCell (p := ⟨B, 1, none⟩) hB _).setCell (p := ⟨B, 2, none⟩) hB _).setCell (p := ⟨B, 3, none⟩) hB _).setCell (p := ⟨B, 4, none⟩) hB _
set_option maxRecDepth 100000 in
set_option maxHeartbeats 4000000 in
theorem fp_best_bad (k : Nat) (A0 : Option Addr) (c0 : Nat) (l0 : List S34) (A1 : Option Addr) (c1 : Nat) (l1 : List Int) (w : World) (hr0 : Kd.C k34 w A0 l0.length l0) (hc0 : l0.length ≤ c0) (hr1 : Kd.C (Kd.int .i64) w A1 l1.length l1) (hc1 : l1.length ≤ c1) (hl : 0 < l0.length) (hv : fingerprint_Valid.f k l0 = some false) :
  Calls Try.prog 34 #[.slice A0 l0.length c0, .slice A1 l1.length c1] w fun e w' => e = .returned (.tuple #[.agg #[.int .i64 0, .int .i64 0, .int .i64 0, .int .i64 0, .slice none 0 0], .int .i64 0, .int .i64 360]) ∧ Below w.heap.size w w' := by
 have hbx := World.alloc_heap_new w (.cells #[.int .i64 0, .int .i64 0, .int .i64 0, .int .i64 0, .slice none 0 0] 25)
 have hb0 : Below w.heap.size w (w.alloc (.cells #[.int .i64 0, .int .i64 0, .int .i64 0, .int .i64 0, .slice none 0 0] 25)) := below_alloc (Below.refl _ _) _
 have t1 : decide ((l0.length : Int) = 0) = false := decide_eq_false (by omega)
 have t2 : ((l0.length : Int) == 0) = false := by simp; intro e; rw [e] at hl; simp at hl
 have t3 : ¬ (l0 = []) := fun e => by rw [e] at hl; cases hl
 have HR0 := Aside0.mk hr0
 have HC0 := Aside0.mk hc0
 have HR1 := Aside0.mk hr1
 have HC1 := Aside0.mk hc1
 have HBX := Aside0.mk hbx
 have HB0 := Aside0.mk hb0
 have HV := Aside0.mk hv
 clear hr0 hc0 hr1 hc1 hl hv hbx hb0
 go_enter Try.func34, Try.ntmps34
 go_wp2_with fail
 refine (fingerprint_Valid.calls k A0 c0 l0 false _ (Kd.C_below HR0.out HB0.out) HC0.out HV.out).mono ?_
 rintro e w1 ⟨rfl, hb1⟩
 have HB1 := Aside0.mk (below_step HB0.out hb1)
 have HBX1 := Aside0.mk (blk_below HBX.out hb1)
 clear hb1
 have x0 : w1.cell? ⟨w.heap.size, 0, none⟩ = some (.int .i64 0) := (blk_cell HBX1.out 0).trans rfl
 have z0 := blk_frozen HBX1.out 0
 have x1 : w1.cell? ⟨w.heap.size, 1, none⟩ = some (.int .i64 0) := (blk_cell HBX1.out 1).trans rfl
 have z1 := blk_frozen HBX1.out 1
 have x2 : w1.cell? ⟨w.heap.size, 2, none⟩ = some (.int .i64 0) := (blk_cell HBX1.out 2).trans rfl
 have z2 := blk_frozen HBX1.out 2
 have x3 : w1.cell? ⟨w.heap.size, 3, none⟩ = some (.int .i64 0) := (blk_cell HBX1.out 3).trans rfl
 have z3 := blk_frozen HBX1.out 3
 have x4 : w1.cell? ⟨w.heap.size, 4, none⟩ = some (.slice none 0 0) := (blk_cell HBX1.out 4).trans rfl
 have z4 := blk_frozen HBX1.out 4
 go_wp2
 have hfin := fp_put5_blk HBX1.out (.int .i64 0) (.int .i64 0) (.int .i64 0) (.int .i64 0) (.slice none 0 0)
 have hbel := fp_put5_below HB1.out (Nat.le_refl _) (.int .i64 0) (.int .i64 0) (.int .i64 0) (.int .i64 0) (.slice none 0 0)
 obtain ⟨W5, hW5⟩ : ∃ W5, fp_put5 w1 w.heap.size (.int .i64 0) (.int .i64 0) (.int .i64 0) (.int .i64 0) (.slice none 0 0) = W5 := ⟨_, rfl⟩
 rw [hW5] at hfin hbel
 have y0 : W5.cell? ⟨w.heap.size, 0, none⟩ = some (.int .i64 0) := (blk_cell hfin 0).trans rfl
 have y1 : W5.cell? ⟨w.heap.size, 1, none⟩ = some (.int .i64 0) := (blk_cell hfin 1).trans rfl
 have y2 : W5.cell? ⟨w.heap.size, 2, none⟩ = some (.int .i64 0) := (blk_cell hfin 2).trans rfl
 have y3 : W5.cell? ⟨w.heap.size, 3, none⟩ = some (.int .i64 0) := (blk_cell hfin 3).trans rfl
 have y4 : W5.cell? ⟨w.heap.size, 4, none⟩ = some (.slice none 0 0) := (blk_cell hfin 4).trans rfl
 rw [show ((((w1.setCell ⟨w.heap.size, 0, none⟩ (.int .i64 0)).setCell ⟨w.heap.size, 1, none⟩ (.int .i64 0)).setCell ⟨w.heap.size, 2, none⟩ (.int .i64 0)).setCell ⟨w.heap.size, 3, none⟩ (.int .i64 0)).setCell ⟨w.heap.size, 4, none⟩ (.slice none 0 0) = W5 from hW5]
 exact bodyPost_ret (v := .tuple #[.agg #[.int .i64 0, .int .i64 0, .int .i64 0, .int .i64 0, .slice none 0 0], .int .i64 0, .int .i64 360]) (by simp [results, Try.f34, go_sem, y0, y1, y2, y3, y4]) rfl ⟨rfl, hbel⟩
set_option maxRecDepth 100000 in
set_option maxHeartbeats 4000000 in
theorem fp_best_deaf (k : Nat) (A0 : Option Addr) (c0 : Nat) (l0 : List S34) (A1 : Option Addr) (c1 : Nat) (l1 : List Int) (w : World) (hr0 : Kd.C k34 w A0 l0.length l0) (hc0 : l0.length ≤ c0) (hr1 : Kd.C (Kd.int .i64) w A1 l1.length l1) (hc1 : l1.length ≤ c1) (hl : 0 < l0.length) (hv : fingerprint_Valid.f k l0 = some true) (hh : fp_heardB l1 = false) :
  Calls Try.prog 34 #[.slice A0 l0.length c0, .slice A1 l1.length c1] w fun e w' => e = .returned (.tuple #[.agg #[.int .i64 0, .int .i64 0, .int .i64 0, .int .i64 0, .slice none 0 0], .int .i64 0, .int .i64 360]) ∧ Below w.heap.size w w' := by
 have hbx := World.alloc_heap_new w (.cells #[.int .i64 0, .int .i64 0, .int .i64 0, .int .i64 0, .slice none 0 0] 25)
 have hb0 : Below w.heap.size w (w.alloc (.cells #[.int .i64 0, .int .i64 0, .int .i64 0, .int .i64 0, .slice none 0 0] 25)) := below_alloc (Below.refl _ _) _
 have t1 : decide ((l0.length : Int) = 0) = false := decide_eq_false (by omega)
 have t2 : ((l0.length : Int) == 0) = false := by simp; intro e; rw [e] at hl; simp at hl
 have t3 : ¬ (l0 = []) := fun e => by rw [e] at hl; cases hl
 have HR0 := Aside0.mk hr0
 have HC0 := Aside0.mk hc0
 have HR1 := Aside0.mk hr1
 have HC1 := Aside0.mk hc1
 have HBX := Aside0.mk hbx
 have HB0 := Aside0.mk hb0
 have HV := Aside0.mk hv
 have HH := Aside0.mk (show (decide ((l1.length : Int) ≤ 60) && fp_codesB (-1) l1) = false from hh)
 clear hr0 hc0 hr1 hc1 hl hv hbx hb0 hh
 go_enter Try.func34, Try.ntmps34
 go_wp2_with fail
 refine (fingerprint_Valid.calls k A0 c0 l0 true _ (Kd.C_below HR0.out HB0.out) HC0.out HV.out).mono ?_
 rintro e w1 ⟨rfl, hb1⟩
 have HB1 := Aside0.mk (below_step HB0.out hb1)
 have HBX1 := Aside0.mk (blk_below HBX.out hb1)
 clear hb1
 go_wp2_with fail
 refine (fp_heard A1 c1 l1 _ (Kd.C_below HR1.out HB1.out)).mono ?_
 rintro e w2 ⟨rfl, hb2⟩
 rw [HH.out]
 have HB2 := Aside0.mk (below_step HB1.out hb2)
 have HBX2 := Aside0.mk (blk_below HBX1.out hb2)
 clear hb2
 have x0 : w2.cell? ⟨w.heap.size, 0, none⟩ = some (.int .i64 0) := (blk_cell HBX2.out 0).trans rfl
 have z0 := blk_frozen HBX2.out 0
 have x1 : w2.cell? ⟨w.heap.size, 1, none⟩ = some (.int .i64 0) := (blk_cell HBX2.out 1).trans rfl
 have z1 := blk_frozen HBX2.out 1
 have x2 : w2.cell? ⟨w.heap.size, 2, none⟩ = some (.int .i64 0) := (blk_cell HBX2.out 2).trans rfl
 have z2 := blk_frozen HBX2.out 2
 have x3 : w2.cell? ⟨w.heap.size, 3, none⟩ = some (.int .i64 0) := (blk_cell HBX2.out 3).trans rfl
 have z3 := blk_frozen HBX2.out 3
 have x4 : w2.cell? ⟨w.heap.size, 4, none⟩ = some (.slice none 0 0) := (blk_cell HBX2.out 4).trans rfl
 have z4 := blk_frozen HBX2.out 4
 go_wp2
 have hfin := fp_put5_blk HBX2.out (.int .i64 0) (.int .i64 0) (.int .i64 0) (.int .i64 0) (.slice none 0 0)
 have hbel := fp_put5_below HB2.out (Nat.le_refl _) (.int .i64 0) (.int .i64 0) (.int .i64 0) (.int .i64 0) (.slice none 0 0)
 obtain ⟨W5, hW5⟩ : ∃ W5, fp_put5 w2 w.heap.size (.int .i64 0) (.int .i64 0) (.int .i64 0) (.int .i64 0) (.slice none 0 0) = W5 := ⟨_, rfl⟩
 rw [hW5] at hfin hbel
 have y0 : W5.cell? ⟨w.heap.size, 0, none⟩ = some (.int .i64 0) := (blk_cell hfin 0).trans rfl
 have y1 : W5.cell? ⟨w.heap.size, 1, none⟩ = some (.int .i64 0) := (blk_cell hfin 1).trans rfl
 have y2 : W5.cell? ⟨w.heap.size, 2, none⟩ = some (.int .i64 0) := (blk_cell hfin 2).trans rfl
 have y3 : W5.cell? ⟨w.heap.size, 3, none⟩ = some (.int .i64 0) := (blk_cell hfin 3).trans rfl
 have y4 : W5.cell? ⟨w.heap.size, 4, none⟩ = some (.slice none 0 0) := (blk_cell hfin 4).trans rfl
 rw [show ((((w2.setCell ⟨w.heap.size, 0, none⟩ (.int .i64 0)).setCell ⟨w.heap.size, 1, none⟩ (.int .i64 0)).setCell ⟨w.heap.size, 2, none⟩ (.int .i64 0)).setCell ⟨w.heap.size, 3, none⟩ (.int .i64 0)).setCell ⟨w.heap.size, 4, none⟩ (.slice none 0 0) = W5 from hW5]
 exact bodyPost_ret (v := .tuple #[.agg #[.int .i64 0, .int .i64 0, .int .i64 0, .int .i64 0, .slice none 0 0], .int .i64 0, .int .i64 360]) (by simp [results, Try.f34, go_sem, y0, y1, y2, y3, y4]) rfl ⟨rfl, hbel⟩

end Go.Proofs.Ytgaepndbfpfniaa.PFR
