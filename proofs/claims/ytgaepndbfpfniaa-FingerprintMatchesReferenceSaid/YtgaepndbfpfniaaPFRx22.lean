-- PRINTED by print.py (a twelfth state) out of the translation. Not trusted: Lean checks it.
import Derived.Test.YtgaepndbfpfniaaPFRx0
import Derived.Test.YtgaepndbfpfniaaPFRx1
import Derived.Test.YtgaepndbfpfniaaPFRx2
import Derived.Test.YtgaepndbfpfniaaPFRx4
import Derived.Test.YtgaepndbfpfniaaPFRx7
import Derived.Test.YtgaepndbfpfniaaPFRx9
import Derived.Test.YtgaepndbfpfniaaPFRx13
import Derived.Test.YtgaepndbfpfniaaPFRx14
import Derived.Test.YtgaepndbfpfniaaPFRx17
import Derived.Test.YtgaepndbfpfniaaPFRx21
import Derived.RangeFuncNested
import Derived.RangeFuncBound
import Derived.RangeFuncCalls
import Derived.RangeFuncLeaves
import Derived.RangeFuncBox
import Derived.Shelf.Abstract
import Derived.Shelf.RegionOpen
import Derived.OwnWalkIn
import Derived.TacticsInMore
import Derived.LoopNIn
import Derived.LoopIn
import Derived.OneCell
import Derived.BigQuiet
import Derived.Deep.RegionWith
import Derived.Deep.RegionHeld3
import Derived.Deep.RegionLaw
import Derived.IntWalk
import Derived.Lib.SliceRun
namespace Go.Proofs.Ytgaepndbfpfniaa.PFR
open Go.RowKit Go.Proofs.YtgaepndbfpfniaaW.PrintWords Go.Proofs.YtgaepndbfpfniaaW.PrintLast Go.Proofs.YtgaepndbfpfniaaW.PrintMore
attribute [local go_sem] max2_int min2_int max_two min_two max_three min_three max_four min_four   -- for this text's walks alone
set_option linter.unusedVariables false
set_option linter.unusedSimpArgs false

attribute [local go_sem] Oper.semAt_some
open Go.Shelf
-- given by hand: fp15
theorem sane_nil {W : World} : Kd.C (Kd.int .i64) W none 0 [] := ⟨rfl, by decide, fun h => absurd h (by decide)⟩
theorem sane_one {W : World} {g : Nat} {x : S34} {A : Option Addr} {c : Nat} (h : W.heap[g]? = some (.cells #[.int .i64 x.f0, .slice A x.f1.length c] 34 (0, 0))) (l : x.f1.length ≤ c) (hc : Kd.C (Kd.int .i64) W A x.f1.length x.f1) :
  Kd.C k34 W (some ⟨g, 0, none⟩) 1 [x] := by
 refine ⟨rfl, by decide, fun _ => ⟨_, rfl, fun j p hj => ?_⟩⟩
 match j, hj with
 | 0, hj =>
  cases hj
  refine ⟨_, rfl, k34_mk W x l hc, fun i u hu => ?_⟩
  match i, hu with
  | 0, hu => cases hu; exact (blk_cell h 0).trans rfl
  | 1, hu => cases hu; exact (blk_cell h 1).trans rfl
theorem sane_two {W : World} {g : Nat} {x y : S34} {A B : Option Addr} {c d : Nat} (h : W.heap[g]? = some (.cells #[.int .i64 x.f0, .slice A x.f1.length c, .int .i64 y.f0, .slice B y.f1.length d] 34 (0, 0))) (l : x.f1.length ≤ c) (hc : Kd.C (Kd.int .i64) W A x.f1.length x.f1)
  (l2 : y.f1.length ≤ d) (hd : Kd.C (Kd.int .i64) W B y.f1.length y.f1) : Kd.C k34 W (some ⟨g, 0, none⟩) 2 [x, y] := by
 refine ⟨rfl, by decide, fun _ => ⟨_, rfl, fun j p hj => ?_⟩⟩
 match j, hj with
 | 0, hj =>
  cases hj
  refine ⟨_, rfl, k34_mk W x l hc, fun i u hu => ?_⟩
  match i, hu with
  | 0, hu => cases hu; exact (blk_cell h 0).trans rfl
  | 1, hu => cases hu; exact (blk_cell h 1).trans rfl
 | 1, hj =>
  cases hj
  refine ⟨_, rfl, k34_mk W y l2 hd, fun i u hu => ?_⟩
  match i, hu with
  | 0, hu => cases hu; exact (blk_cell h 2).trans rfl
  | 1, hu => cases hu; exact (blk_cell h 3).trans rfl
def airchecklaw36_sane.f : Option Bool := some true
theorem sn_name {p f a} {W : World} {Q} (h : ∀ X, W = X → Calls p f a X Q) : Calls p f a W Q := h W rfl
theorem sn_new {v : World} {c t n} (h : v.heap.size = n) : (v.alloc (.cells c t)).heap[n]? = some (.cells c t (0, 0)) := h ▸ World.alloc_heap_new _ _
set_option maxHeartbeats 400000000 in
set_option maxRecDepth 100000 in
theorem airchecklaw36_sane.calls0 (w : World) : Calls Try.prog 10 #[] w fun e w' => e = .returned (.bool true) ∧ Below w.heap.size w w' := by
 have HB := Aside0.mk (Below.refl w.heap.size w)
 go_enter Try.func10, Try.ntmps10
 go_wp2_with fail
 refine sn_name fun X hX => ?_
 have hb : Below w.heap.size w X := hX ▸ below_alloc (below_alloc (below_alloc (Below.refl _ _) _) _) _
 have codes_ : Kd.C (Kd.int .i64) X (some ⟨w.heap.size, 0, none⟩) 5 [1, 2, 3, 4, 5] := hX ▸ fp_row.C (r := [1, 2, 3, 4, 5]) (blk_alloc (blk_alloc (sn_new rfl) _) _) (by decide)
 have x1_ : Kd.C (Kd.int .i64) X (some ⟨w.heap.size + 1, 0, none⟩) 4 [1, 2, 3, 4] := hX ▸ fp_row.C (r := [1, 2, 3, 4]) (blk_alloc (sn_new (by simp only [World.size_alloc])) _) (by decide)
 have x2_ : Kd.C (Kd.int .i64) X (some ⟨w.heap.size + 1 + 1, 0, none⟩) 4 [1, 3, 5, 4] := hX ▸ fp_row.C (r := [1, 3, 5, 4]) (sn_new (by simp only [World.size_alloc])) (by decide)
 refine (fingerprint_Distance.calls (some ⟨w.heap.size + 1, 0, none⟩) 4 [1, 2, 3, 4] (some ⟨w.heap.size + 1 + 1, 0, none⟩) 4 [1, 3, 5, 4] 2 0 _ x1_ (by decide) x2_ (by decide) (by decide +kernel)).mono ?_
 rintro e v0 ⟨rfl, hbb⟩
 have hB := below_step hb hbb
 have codes := Aside0.mk (Kd.C_below codes_ hbb); replace HB := Aside0.mk (below_step HB.out hB)
 clear hB hbb hX hb codes_ x1_ x2_
 go_wp2_with fail
 refine sn_name fun X hX => ?_
 have hb : Below v0.heap.size v0 X := hX ▸ below_alloc (Below.refl _ _) _
 have x1_ : Kd.C (Kd.int .i64) X (some ⟨v0.heap.size, 0, none⟩) 3 [2, 9, 4] := hX ▸ fp_row.C (r := [2, 9, 4]) (sn_new rfl) (by decide)
 refine (fingerprint_Align.calls 100 (some ⟨v0.heap.size, 0, none⟩) 3 [2, 9, 4] (some ⟨w.heap.size, 0, none⟩) 5 [1, 2, 3, 4, 5] 0 1 4 1 [1, 2, 1] 0 _ x1_ (by decide) (Kd.C_below codes.out hb) (by decide) (by decide +kernel)).mono ?_
 rintro e v1 ⟨v_, rfl, mR, hbb⟩
 have hB := below_step hb hbb
 replace codes := Aside0.mk (Kd.C_below codes.out hB); replace HB := Aside0.mk (below_step HB.out hB)
 clear hB hbb hX hb x1_
 obtain ⟨mA, mc, rfl⟩ := Kd.R_slice mR
 have ml := Aside0.mk (show 3 ≤ mc from (Kd.R_reads' mR).2.1)
 have m := Aside0.mk (show Kd.C (Kd.int .i64) v1 (mA) 3 [1, 2, 1] from (Kd.R_reads' mR).2.2)
 clear mR
 go_wp2_with fail
 refine sn_name fun X hX => ?_
 have hb : Below v1.heap.size v1 X := hX ▸ below_alloc (below_alloc (Below.refl _ _) _) _
 have mm_ : X.heap[v1.heap.size]? = some (Obj.cells #[Value.int IntKind.i64 0, Value.int IntKind.i64 1, Value.int IntKind.i64 4, Value.int IntKind.i64 1, Value.slice mA 3 mc] 25 (0, 0)) := hX ▸ (blk_alloc (sn_new rfl) _)
 have x1_ : Kd.C (Kd.int .i64) X (some ⟨v1.heap.size + 1, 0, none⟩) 2 [2, 4] := hX ▸ fp_row.C (r := [2, 4]) (sn_new (by simp only [World.size_alloc])) (by decide)
 refine (fingerprint_Align.calls 100 (some ⟨v1.heap.size + 1, 0, none⟩) 2 [2, 4] (some ⟨w.heap.size, 0, none⟩) 5 [1, 2, 3, 4, 5] 0 1 2 1 [1, 3] 0 _ x1_ (by decide) (Kd.C_below codes.out hb) (by decide) (by decide +kernel)).mono ?_
 rintro e v2 ⟨v_, rfl, nR, hbb⟩
 have hB := below_step hb hbb
 replace codes := Aside0.mk (Kd.C_below codes.out hB); replace m := Aside0.mk (Kd.C_below m.out hB); have mm := Aside0.mk (blk_below mm_ hbb); replace HB := Aside0.mk (below_step HB.out hB)
 clear hB hbb hX hb mm_ x1_
 obtain ⟨nA, nc, rfl⟩ := Kd.R_slice nR
 have nl := Aside0.mk (show 2 ≤ nc from (Kd.R_reads' nR).2.1)
 have n := Aside0.mk (show Kd.C (Kd.int .i64) v2 (nA) 2 [1, 3] from (Kd.R_reads' nR).2.2)
 clear nR
 go_wp2_with fail
 refine sn_name fun X hX => ?_
 have hb : Below v2.heap.size v2 X := hX ▸ below_alloc (below_alloc (below_alloc (Below.refl _ _) _) _) _
 have nm_ : X.heap[v2.heap.size]? = some (Obj.cells #[Value.int IntKind.i64 0, Value.int IntKind.i64 1, Value.int IntKind.i64 2, Value.int IntKind.i64 1, Value.slice nA 2 nc] 25 (0, 0)) := hX ▸ (blk_alloc (blk_alloc (sn_new rfl) _) _)
 have x1_ : Kd.C (Kd.int .i64) X (some ⟨v2.heap.size + 1, 0, none⟩) 2 [-1, 3] := hX ▸ fp_row.C (r := [-1, 3]) (blk_alloc (sn_new (by simp only [World.size_alloc])) _) (by decide)
 have x2_ : Kd.C (Kd.int .i64) X (some ⟨v2.heap.size + 1 + 1, 0, none⟩) 3 [3, 3, 3] := hX ▸ fp_row.C (r := [3, 3, 3]) (sn_new (by simp only [World.size_alloc])) (by decide)
 refine (fingerprint_Cost.calls 100 (some ⟨v2.heap.size + 1, 0, none⟩) 2 [-1, 3] (some ⟨v2.heap.size + 1 + 1, 0, none⟩) 3 [3, 3, 3] 1 0 _ x1_ (by decide) x2_ (by decide) (by decide +kernel)).mono ?_
 rintro e v3 ⟨rfl, hbb⟩
 have hB := below_step hb hbb
 replace codes := Aside0.mk (Kd.C_below codes.out hB); replace m := Aside0.mk (Kd.C_below m.out hB); replace mm := Aside0.mk (blk_below mm.out hB); replace n := Aside0.mk (Kd.C_below n.out hB); have nm := Aside0.mk (blk_below nm_ hbb); replace HB := Aside0.mk (below_step HB.out hB)
 clear hB hbb hX hb nm_ x1_ x2_
 go_wp2_with fail
 refine sn_name fun X hX => ?_
 have hb : Below v3.heap.size v3 X := hX ▸ below_alloc (Below.refl _ _) _
 have x1_ : Kd.C (Kd.int .i64) X (some ⟨v3.heap.size, 0, none⟩) 3 [2, 9, 4] := hX ▸ fp_row.C (r := [2, 9, 4]) (sn_new rfl) (by decide)
 refine (fingerprint_Table.calls (some ⟨v3.heap.size, 0, none⟩) 3 [2, 9, 4] (some ⟨w.heap.size, 0, none⟩) 5 [1, 2, 3, 4, 5] (fp_rowsP [2, 9, 4] [1, 2, 3, 4, 5] true) 0 _ x1_ (by decide) (Kd.C_below codes.out hb) (by decide) (by decide +kernel)).mono ?_
 rintro e v4 ⟨v_, rfl, tS, hbb⟩
 have hB := below_step hb hbb
 replace codes := Aside0.mk (Kd.C_below codes.out hB); replace m := Aside0.mk (Kd.C_below m.out hB); replace mm := Aside0.mk (blk_below mm.out hB); replace n := Aside0.mk (Kd.C_below n.out hB); replace nm := Aside0.mk (blk_below nm.out hB); replace HB := Aside0.mk (below_step HB.out hB)
 clear hB hbb hX hb x1_
 obtain ⟨tA, tc, rfl⟩ := Kd.R_slice (Kd.S_R tS)
 have t3 := Kd.R_reads' (Kd.S_R tS)
 have tl := Aside0.mk t3.2.1
 have t := Aside0.mk (show Kd.C (Kd.slice 3 (Kd.int .i64)) v4 tA (fp_rowsP [2, 9, 4] [1, 2, 3, 4, 5] true).length (fp_rowsP [2, 9, 4] [1, 2, 3, 4, 5] true) from t3.2.2)
 clear t3 tS
 go_wp2_with fail
 refine sn_name fun X hX => ?_
 have hb : Below v4.heap.size v4 X := hX ▸ below_alloc (Below.refl _ _) _
 have x1_ : Kd.C (Kd.int .i64) X (some ⟨v4.heap.size, 0, none⟩) 3 [2, 9, 4] := hX ▸ fp_row.C (r := [2, 9, 4]) (sn_new rfl) (by decide)
 refine (fingerprint_Bound.calls 1000 (some ⟨v4.heap.size, 0, none⟩) 3 [2, 9, 4] (some ⟨w.heap.size, 0, none⟩) 5 [1, 2, 3, 4, 5] tA tc (fp_rowsP [2, 9, 4] [1, 2, 3, 4, 5] true) 1 true _ x1_ (by decide) (Kd.C_below codes.out hb) (by decide) (Kd.C_below t.out hb) tl.out (by decide +kernel)).mono ?_
 rintro e v5 ⟨rfl, hbb⟩
 have hB := below_step hb hbb
 replace codes := Aside0.mk (Kd.C_below codes.out hB); replace m := Aside0.mk (Kd.C_below m.out hB); replace mm := Aside0.mk (blk_below mm.out hB); replace n := Aside0.mk (Kd.C_below n.out hB); replace nm := Aside0.mk (blk_below nm.out hB); replace t := Aside0.mk (Kd.C_below t.out hB); replace HB := Aside0.mk (below_step HB.out hB)
 clear hB hbb hX hb x1_
 clear t
 clear tl
 go_wp2_with fail
 refine sn_name fun X hX => ?_
 have hb : Below v5.heap.size v5 X := hX ▸ below_alloc (below_alloc (below_alloc (Below.refl _ _) _) _) _
 have x1_ : Kd.C (Kd.int .i64) X (some ⟨v5.heap.size, 0, none⟩) 2 [7, 8] := hX ▸ fp_row.C (r := [7, 8]) (blk_alloc (blk_alloc (sn_new rfl) _) _) (by decide)
 have pr_ : X.heap[v5.heap.size + 1]? = some (Obj.cells #[Value.int IntKind.i64 3, Value.slice (some ⟨v5.heap.size, 0, none⟩) 2 2, Value.int IntKind.i64 5, Value.slice (some ⟨w.heap.size, 0, none⟩) 5 5] 34 (0, 0)) := hX ▸ (blk_alloc (sn_new (by simp only [World.size_alloc])) _)
 have x2_ : Kd.C (Kd.int .i64) X (some ⟨v5.heap.size + 1 + 1, 0, none⟩) 3 [2, 9, 4] := hX ▸ fp_row.C (r := [2, 9, 4]) (sn_new (by simp only [World.size_alloc])) (by decide)
 refine (fingerprint_Best.calls 100 (some ⟨v5.heap.size + 1, 0, none⟩) 2 [⟨3, [7, 8]⟩, ⟨5, [1, 2, 3, 4, 5]⟩] (some ⟨v5.heap.size + 1 + 1, 0, none⟩) 3 [2, 9, 4] 5 1 4 1 [1, 2, 1] 3 0 _ (sane_two (x := ⟨3, [7, 8]⟩) (y := ⟨5, [1, 2, 3, 4, 5]⟩) pr_ (by decide) x1_ (by decide) (Kd.C_below codes.out hb)) (by decide) x2_ (by decide) (by kernel_rfl)).mono ?_
 rintro e v6 ⟨v_, rfl, bR, hbb⟩
 have hB := below_step hb hbb
 replace codes := Aside0.mk (Kd.C_below codes.out hB); replace m := Aside0.mk (Kd.C_below m.out hB); replace mm := Aside0.mk (blk_below mm.out hB); replace n := Aside0.mk (Kd.C_below n.out hB); replace nm := Aside0.mk (blk_below nm.out hB); replace HB := Aside0.mk (below_step HB.out hB)
 clear hB hbb hX hb x1_ pr_ x2_
 obtain ⟨bA, bc, rfl⟩ := Kd.R_slice bR
 have bl := Aside0.mk (show 3 ≤ bc from (Kd.R_reads' bR).2.1)
 have b := Aside0.mk (show Kd.C (Kd.int .i64) v6 (bA) 3 [1, 2, 1] from (Kd.R_reads' bR).2.2)
 clear bR
 go_wp2_with fail
 refine sn_name fun X hX => ?_
 have hb : Below v6.heap.size v6 X := hX ▸ below_alloc (Below.refl _ _) _
 have bm_ : X.heap[v6.heap.size]? = some (Obj.cells #[Value.int IntKind.i64 5, Value.int IntKind.i64 1, Value.int IntKind.i64 4, Value.int IntKind.i64 1, Value.slice bA 3 bc] 25 (0, 0)) := hX ▸ (sn_new rfl)
 refine (fingerprint_Cost.calls 100 none 0 [] none 0 [] 0 360 _ sane_nil (by decide) sane_nil (by decide) (by decide +kernel)).mono ?_
 rintro e v7 ⟨rfl, hbb⟩
 have hB := below_step hb hbb
 replace codes := Aside0.mk (Kd.C_below codes.out hB); replace m := Aside0.mk (Kd.C_below m.out hB); replace mm := Aside0.mk (blk_below mm.out hB); replace n := Aside0.mk (Kd.C_below n.out hB); replace nm := Aside0.mk (blk_below nm.out hB); replace b := Aside0.mk (Kd.C_below b.out hB); have bm := Aside0.mk (blk_below bm_ hbb); replace HB := Aside0.mk (below_step HB.out hB)
 clear hB hbb hX hb bm_
 have q0 : v7.cell? ⟨v1.heap.size, 0, none⟩ = some (Value.int IntKind.i64 0) := (blk_cell mm.out 0).trans rfl
 have q1 : v7.cell? ⟨v1.heap.size, 1, none⟩ = some (Value.int IntKind.i64 1) := (blk_cell mm.out 1).trans rfl
 have q2 : v7.cell? ⟨v1.heap.size, 2, none⟩ = some (Value.int IntKind.i64 4) := (blk_cell mm.out 2).trans rfl
 have q3 : v7.cell? ⟨v1.heap.size, 3, none⟩ = some (Value.int IntKind.i64 1) := (blk_cell mm.out 3).trans rfl
 have q4 : v7.cell? ⟨v1.heap.size, 4, none⟩ = some (Value.slice mA 3 mc) := (blk_cell mm.out 4).trans rfl
 go_wp2_with fail
 clear q0 q1 q2 q3 q4
 refine sn_name fun X hX => ?_
 have hb : Below v7.heap.size v7 X := hX ▸ below_alloc (Below.refl _ _) _
 have x1_ : Kd.C (Kd.int .i64) X (some ⟨v7.heap.size, 0, none⟩) 3 [1, 2, 1] := hX ▸ fp_row.C (r := [1, 2, 1]) (sn_new rfl) (by decide)
 refine (aircheckref36_Same.calls 100 0 1 4 1 mA mc [1, 2, 1] 0 1 4 1 (some ⟨v7.heap.size, 0, none⟩) 3 [1, 2, 1] true _ (Kd.C_below m.out hb) ml.out x1_ (by decide) (by decide +kernel)).mono ?_
 rintro e v8 ⟨rfl, hbb⟩
 have hB := below_step hb hbb
 replace codes := Aside0.mk (Kd.C_below codes.out hB); replace m := Aside0.mk (Kd.C_below m.out hB); replace mm := Aside0.mk (blk_below mm.out hB); replace n := Aside0.mk (Kd.C_below n.out hB); replace nm := Aside0.mk (blk_below nm.out hB); replace b := Aside0.mk (Kd.C_below b.out hB); replace bm := Aside0.mk (blk_below bm.out hB); replace HB := Aside0.mk (below_step HB.out hB)
 clear hB hbb hX hb x1_
 have q0 : v8.cell? ⟨v2.heap.size, 0, none⟩ = some (Value.int IntKind.i64 0) := (blk_cell nm.out 0).trans rfl
 have q1 : v8.cell? ⟨v2.heap.size, 1, none⟩ = some (Value.int IntKind.i64 1) := (blk_cell nm.out 1).trans rfl
 have q2 : v8.cell? ⟨v2.heap.size, 2, none⟩ = some (Value.int IntKind.i64 2) := (blk_cell nm.out 2).trans rfl
 have q3 : v8.cell? ⟨v2.heap.size, 3, none⟩ = some (Value.int IntKind.i64 1) := (blk_cell nm.out 3).trans rfl
 have q4 : v8.cell? ⟨v2.heap.size, 4, none⟩ = some (Value.slice nA 2 nc) := (blk_cell nm.out 4).trans rfl
 go_wp2_with fail
 clear q0 q1 q2 q3 q4
 refine sn_name fun X hX => ?_
 have hb : Below v8.heap.size v8 X := hX ▸ below_alloc (Below.refl _ _) _
 have x1_ : Kd.C (Kd.int .i64) X (some ⟨v8.heap.size, 0, none⟩) 2 [1, 3] := hX ▸ fp_row.C (r := [1, 3]) (sn_new rfl) (by decide)
 refine (aircheckref36_Same.calls 100 0 1 2 1 nA nc [1, 3] 0 1 2 1 (some ⟨v8.heap.size, 0, none⟩) 2 [1, 3] true _ (Kd.C_below n.out hb) nl.out x1_ (by decide) (by decide +kernel)).mono ?_
 rintro e v9 ⟨rfl, hbb⟩
 have hB := below_step hb hbb
 replace codes := Aside0.mk (Kd.C_below codes.out hB); replace m := Aside0.mk (Kd.C_below m.out hB); replace mm := Aside0.mk (blk_below mm.out hB); replace n := Aside0.mk (Kd.C_below n.out hB); replace nm := Aside0.mk (blk_below nm.out hB); replace b := Aside0.mk (Kd.C_below b.out hB); replace bm := Aside0.mk (blk_below bm.out hB); replace HB := Aside0.mk (below_step HB.out hB)
 clear hB hbb hX hb x1_
 clear nm n
 clear nl
 have q0 : v9.cell? ⟨v6.heap.size, 0, none⟩ = some (Value.int IntKind.i64 5) := (blk_cell bm.out 0).trans rfl
 have q1 : v9.cell? ⟨v6.heap.size, 1, none⟩ = some (Value.int IntKind.i64 1) := (blk_cell bm.out 1).trans rfl
 have q2 : v9.cell? ⟨v6.heap.size, 2, none⟩ = some (Value.int IntKind.i64 4) := (blk_cell bm.out 2).trans rfl
 have q3 : v9.cell? ⟨v6.heap.size, 3, none⟩ = some (Value.int IntKind.i64 1) := (blk_cell bm.out 3).trans rfl
 have q4 : v9.cell? ⟨v6.heap.size, 4, none⟩ = some (Value.slice bA 3 bc) := (blk_cell bm.out 4).trans rfl
 go_wp2_with fail
 clear q0 q1 q2 q3 q4
 refine sn_name fun X hX => ?_
 have hb : Below v9.heap.size v9 X := hX ▸ below_alloc (Below.refl _ _) _
 have x1_ : Kd.C (Kd.int .i64) X (some ⟨v9.heap.size, 0, none⟩) 3 [1, 2, 1] := hX ▸ fp_row.C (r := [1, 2, 1]) (sn_new rfl) (by decide)
 refine (aircheckref36_Same.calls 100 5 1 4 1 bA bc [1, 2, 1] 5 1 4 1 (some ⟨v9.heap.size, 0, none⟩) 3 [1, 2, 1] true _ (Kd.C_below b.out hb) bl.out x1_ (by decide) (by decide +kernel)).mono ?_
 rintro e v10 ⟨rfl, hbb⟩
 have hB := below_step hb hbb
 replace codes := Aside0.mk (Kd.C_below codes.out hB); replace m := Aside0.mk (Kd.C_below m.out hB); replace mm := Aside0.mk (blk_below mm.out hB); replace b := Aside0.mk (Kd.C_below b.out hB); replace bm := Aside0.mk (blk_below bm.out hB); replace HB := Aside0.mk (below_step HB.out hB)
 clear hB hbb hX hb x1_
 clear bm b
 clear bl
 have q0 : (v10.alloc (Obj.cells #[Value.int IntKind.i64 2, Value.int IntKind.i64 9, Value.int IntKind.i64 4] 3)).cell? ⟨v1.heap.size, 0, none⟩ = some (Value.int IntKind.i64 0) := (blk_cell (blk_alloc mm.out _) 0).trans rfl
 have q1 : (v10.alloc (Obj.cells #[Value.int IntKind.i64 2, Value.int IntKind.i64 9, Value.int IntKind.i64 4] 3)).cell? ⟨v1.heap.size, 1, none⟩ = some (Value.int IntKind.i64 1) := (blk_cell (blk_alloc mm.out _) 1).trans rfl
 have q2 : (v10.alloc (Obj.cells #[Value.int IntKind.i64 2, Value.int IntKind.i64 9, Value.int IntKind.i64 4] 3)).cell? ⟨v1.heap.size, 2, none⟩ = some (Value.int IntKind.i64 4) := (blk_cell (blk_alloc mm.out _) 2).trans rfl
 have q3 : (v10.alloc (Obj.cells #[Value.int IntKind.i64 2, Value.int IntKind.i64 9, Value.int IntKind.i64 4] 3)).cell? ⟨v1.heap.size, 3, none⟩ = some (Value.int IntKind.i64 1) := (blk_cell (blk_alloc mm.out _) 3).trans rfl
 have q4 : (v10.alloc (Obj.cells #[Value.int IntKind.i64 2, Value.int IntKind.i64 9, Value.int IntKind.i64 4] 3)).cell? ⟨v1.heap.size, 4, none⟩ = some (Value.slice mA 3 mc) := (blk_cell (blk_alloc mm.out _) 4).trans rfl
 go_wp2_with fail
 clear q0 q1 q2 q3 q4
 refine sn_name fun X hX => ?_
 have hb : Below v10.heap.size v10 X := hX ▸ below_alloc (Below.refl _ _) _
 have x1_ : Kd.C (Kd.int .i64) X (some ⟨v10.heap.size, 0, none⟩) 3 [2, 9, 4] := hX ▸ fp_row.C (r := [2, 9, 4]) (sn_new rfl) (by decide)
 refine (fingerprint_Check.calls 100 (some ⟨v10.heap.size, 0, none⟩) 3 [2, 9, 4] (some ⟨w.heap.size, 0, none⟩) 5 [1, 2, 3, 4, 5] 0 1 4 1 mA mc [1, 2, 1] true _ x1_ (by decide) (Kd.C_below codes.out hb) (by decide) (Kd.C_below m.out hb) ml.out (by decide +kernel)).mono ?_
 rintro e v11 ⟨rfl, hbb⟩
 have hB := below_step hb hbb
 replace codes := Aside0.mk (Kd.C_below codes.out hB); replace m := Aside0.mk (Kd.C_below m.out hB); replace mm := Aside0.mk (blk_below mm.out hB); replace HB := Aside0.mk (below_step HB.out hB)
 clear hB hbb hX hb x1_
 have q0 : (v11.alloc (Obj.cells #[Value.int IntKind.i64 2, Value.int IntKind.i64 4] 3)).cell? ⟨v1.heap.size, 0, none⟩ = some (Value.int IntKind.i64 0) := (blk_cell (blk_alloc mm.out _) 0).trans rfl
 have q1 : (v11.alloc (Obj.cells #[Value.int IntKind.i64 2, Value.int IntKind.i64 4] 3)).cell? ⟨v1.heap.size, 1, none⟩ = some (Value.int IntKind.i64 1) := (blk_cell (blk_alloc mm.out _) 1).trans rfl
 have q2 : (v11.alloc (Obj.cells #[Value.int IntKind.i64 2, Value.int IntKind.i64 4] 3)).cell? ⟨v1.heap.size, 2, none⟩ = some (Value.int IntKind.i64 4) := (blk_cell (blk_alloc mm.out _) 2).trans rfl
 have q3 : (v11.alloc (Obj.cells #[Value.int IntKind.i64 2, Value.int IntKind.i64 4] 3)).cell? ⟨v1.heap.size, 3, none⟩ = some (Value.int IntKind.i64 1) := (blk_cell (blk_alloc mm.out _) 3).trans rfl
 have q4 : (v11.alloc (Obj.cells #[Value.int IntKind.i64 2, Value.int IntKind.i64 4] 3)).cell? ⟨v1.heap.size, 4, none⟩ = some (Value.slice mA 3 mc) := (blk_cell (blk_alloc mm.out _) 4).trans rfl
 go_wp2_with fail
 clear q0 q1 q2 q3 q4
 refine sn_name fun X hX => ?_
 have hb : Below v11.heap.size v11 X := hX ▸ below_alloc (Below.refl _ _) _
 have x1_ : Kd.C (Kd.int .i64) X (some ⟨v11.heap.size, 0, none⟩) 2 [2, 4] := hX ▸ fp_row.C (r := [2, 4]) (sn_new rfl) (by decide)
 refine (fingerprint_Check.calls 100 (some ⟨v11.heap.size, 0, none⟩) 2 [2, 4] (some ⟨w.heap.size, 0, none⟩) 5 [1, 2, 3, 4, 5] 0 1 4 1 mA mc [1, 2, 1] false _ x1_ (by decide) (Kd.C_below codes.out hb) (by decide) (Kd.C_below m.out hb) ml.out (by decide +kernel)).mono ?_
 rintro e v12 ⟨rfl, hbb⟩
 have hB := below_step hb hbb
 replace codes := Aside0.mk (Kd.C_below codes.out hB); replace m := Aside0.mk (Kd.C_below m.out hB); replace mm := Aside0.mk (blk_below mm.out hB); replace HB := Aside0.mk (below_step HB.out hB)
 clear hB hbb hX hb x1_
 go_wp2_with fail
 refine sn_name fun X hX => ?_
 have hb : Below v12.heap.size v12 X := hX ▸ below_alloc (Below.refl _ _) _
 have x1_ : Kd.C (Kd.int .i64) X (some ⟨v12.heap.size, 0, none⟩) 1 [-1] := hX ▸ fp_row.C (r := [-1]) (sn_new rfl) (by decide)
 refine (fingerprint_Heard.calls (some ⟨v12.heap.size, 0, none⟩) 1 [-1] true _ x1_ (by decide) (by decide +kernel)).mono ?_
 rintro e v13 ⟨rfl, hbb⟩
 have hB := below_step hb hbb
 replace codes := Aside0.mk (Kd.C_below codes.out hB); replace m := Aside0.mk (Kd.C_below m.out hB); replace mm := Aside0.mk (blk_below mm.out hB); replace HB := Aside0.mk (below_step HB.out hB)
 clear hB hbb hX hb x1_
 go_wp2_with fail
 refine sn_name fun X hX => ?_
 have hb : Below v13.heap.size v13 X := hX ▸ below_alloc (Below.refl _ _) _
 have x1_ : Kd.C (Kd.int .i64) X (some ⟨v13.heap.size, 0, none⟩) 1 [256] := hX ▸ fp_row.C (r := [256]) (sn_new rfl) (by decide)
 refine (fingerprint_Heard.calls (some ⟨v13.heap.size, 0, none⟩) 1 [256] false _ x1_ (by decide) (by decide +kernel)).mono ?_
 rintro e v14 ⟨rfl, hbb⟩
 have hB := below_step hb hbb
 replace codes := Aside0.mk (Kd.C_below codes.out hB); replace m := Aside0.mk (Kd.C_below m.out hB); replace mm := Aside0.mk (blk_below mm.out hB); replace HB := Aside0.mk (below_step HB.out hB)
 clear hB hbb hX hb x1_
 go_wp2_with fail
 refine sn_name fun X hX => ?_
 have hb : Below v14.heap.size v14 X := hX ▸ below_alloc (Below.refl _ _) _
 have pr_ : X.heap[v14.heap.size]? = some (Obj.cells #[Value.int IntKind.i64 3, Value.slice (some ⟨w.heap.size, 0, none⟩) 5 5] 34 (0, 0)) := hX ▸ (sn_new rfl)
 refine (fingerprint_Valid.calls 100 (some ⟨v14.heap.size, 0, none⟩) 1 [⟨3, [1, 2, 3, 4, 5]⟩] true _ (sane_one (x := ⟨3, [1, 2, 3, 4, 5]⟩) pr_ (by decide) (Kd.C_below codes.out hb)) (by decide) (by decide +kernel)).mono ?_
 rintro e v15 ⟨rfl, hbb⟩
 have hB := below_step hb hbb
 replace codes := Aside0.mk (Kd.C_below codes.out hB); replace m := Aside0.mk (Kd.C_below m.out hB); replace mm := Aside0.mk (blk_below mm.out hB); replace HB := Aside0.mk (below_step HB.out hB)
 clear hB hbb hX hb pr_
 go_wp2_with fail
 refine sn_name fun X hX => ?_
 have hb : Below v15.heap.size v15 X := hX ▸ below_alloc (Below.refl _ _) _
 have pr_ : X.heap[v15.heap.size]? = some (Obj.cells #[Value.int IntKind.i64 3, Value.slice none 0 0] 34 (0, 0)) := hX ▸ (sn_new rfl)
 refine (fingerprint_Valid.calls 100 (some ⟨v15.heap.size, 0, none⟩) 1 [⟨3, []⟩] false _ (sane_one (x := ⟨3, []⟩) pr_ (by decide) sane_nil) (by decide) (by decide +kernel)).mono ?_
 rintro e v16 ⟨rfl, hbb⟩
 have hB := below_step hb hbb
 replace codes := Aside0.mk (Kd.C_below codes.out hB); replace m := Aside0.mk (Kd.C_below m.out hB); replace mm := Aside0.mk (blk_below mm.out hB); replace HB := Aside0.mk (below_step HB.out hB)
 clear hB hbb hX hb pr_
 go_wp2_with fail
 clear codes mm m
 go_ret
 exact ⟨rfl, HB.out⟩
theorem airchecklaw36_sane.calls (r : Bool) (w : World) (h : airchecklaw36_sane.f = some r) : Calls Try.prog 10 #[] w fun e w' => e = .returned (.bool r) ∧ Below w.heap.size w w' := by
 cases (Option.some.inj h : true = r)
 exact airchecklaw36_sane.calls0 w

end Go.Proofs.Ytgaepndbfpfniaa.PFR
