-- PRINTED by print.py (a twelfth state) out of the translation. Not trusted: Lean checks it.
import Derived.Test.YtgaepndbfpfniaaPFBx0
import Derived.Test.YtgaepndbfpfniaaPFBx1
import Derived.Test.YtgaepndbfpfniaaPFBx2
import Derived.Test.YtgaepndbfpfniaaPFBx4
import Derived.Test.YtgaepndbfpfniaaPFBx7
import Derived.Test.YtgaepndbfpfniaaPFBx9
import Derived.Test.YtgaepndbfpfniaaPFBx13
import Derived.Test.YtgaepndbfpfniaaPFBx14
import Derived.Test.YtgaepndbfpfniaaPFBx15
import Derived.Test.YtgaepndbfpfniaaPFBx19
import Derived.RangeFuncNested
import Derived.RangeFuncBound
import Derived.RangeFuncCalls
import Derived.RangeFuncLeaves
import Derived.RangeFuncBox
import Derived.Shelf.Abstract
import Derived.Shelf.RegionOpen
import Derived.OwnWalkIn
import Derived.TacticsInMore
import Derived.LoopNIn
import Derived.LoopIn
import Derived.OneCell
import Derived.BigQuiet
import Derived.Deep.RegionWith
import Derived.Deep.RegionHeld3
import Derived.Deep.RegionLaw
import Derived.IntWalk
import Derived.Lib.SliceRun
namespace Go.Proofs.Ytgaepndbfpfniaa.PFB
open Go.RowKit Go.Proofs.YtgaepndbfpfniaaW.PrintWords Go.Proofs.YtgaepndbfpfniaaW.PrintLast Go.Proofs.YtgaepndbfpfniaaW.PrintMore
attribute [local go_sem] max2_int min2_int max_two min_two max_three min_three max_four min_four   -- for this text's walks alone
set_option linter.unusedVariables false
set_option linter.unusedSimpArgs false

attribute [local go_sem] Oper.semAt_some
open Go.Shelf
-- given by hand: fp15
theorem sane_nil {W : World} : Kd.C (Kd.int .i64) W none 0 [] := ⟨rfl, by decide, fun h => absurd h (by decide)⟩
theorem sane_one {W : World} {g : Nat} {x : S34} {A : Option Addr} {c : Nat} (h : W.heap[g]? = some (.cells #[.int .i64 x.f0, .slice A x.f1.length c] 34 (0, 0))) (l : x.f1.length ≤ c) (hc : Kd.C (Kd.int .i64) W A x.f1.length x.f1) :
    Kd.C k34 W (some ⟨g, 0, none⟩) 1 [x] := by
  refine ⟨rfl, by decide, fun _ => ⟨_, rfl, fun j p hj => ?_⟩⟩
  match j, hj with
  | 0, hj =>
    cases hj
    refine ⟨_, rfl, k34_mk W x l hc, fun i u hu => ?_⟩
    match i, hu with
    | 0, hu => cases hu; exact (blk_cell h 0).trans rfl
    | 1, hu => cases hu; exact (blk_cell h 1).trans rfl
theorem sane_two {W : World} {g : Nat} {x y : S34} {A B : Option Addr} {c d : Nat} (h : W.heap[g]? = some (.cells #[.int .i64 x.f0, .slice A x.f1.length c, .int .i64 y.f0, .slice B y.f1.length d] 34 (0, 0))) (l : x.f1.length ≤ c) (hc : Kd.C (Kd.int .i64) W A x.f1.length x.f1)
    (l2 : y.f1.length ≤ d) (hd : Kd.C (Kd.int .i64) W B y.f1.length y.f1) : Kd.C k34 W (some ⟨g, 0, none⟩) 2 [x, y] := by
  refine ⟨rfl, by decide, fun _ => ⟨_, rfl, fun j p hj => ?_⟩⟩
  match j, hj with
  | 0, hj =>
    cases hj
    refine ⟨_, rfl, k34_mk W x l hc, fun i u hu => ?_⟩
    match i, hu with
    | 0, hu => cases hu; exact (blk_cell h 0).trans rfl
    | 1, hu => cases hu; exact (blk_cell h 1).trans rfl
  | 1, hj =>
    cases hj
    refine ⟨_, rfl, k34_mk W y l2 hd, fun i u hu => ?_⟩
    match i, hu with
    | 0, hu => cases hu; exact (blk_cell h 2).trans rfl
    | 1, hu => cases hu; exact (blk_cell h 3).trans rfl
def airchecklaw36_sane.f : Option Bool := some true
set_option maxHeartbeats 400000000 in
set_option maxRecDepth 100000 in
theorem airchecklaw36_sane.calls0 (w : World) : Calls Try.prog 10 #[] w fun e w' => e = .returned (.bool true) ∧ Below w.heap.size w w' := by
  have HB := Aside0.mk (Below.refl w.heap.size w)
  go_enter Try.func10, Try.ntmps10
  go_wp2_with fail
  have hb0 : Below w.heap.size w (((w.alloc (Obj.cells #[Value.int IntKind.i64 1, Value.int IntKind.i64 2, Value.int IntKind.i64 3, Value.int IntKind.i64 4, Value.int IntKind.i64 5] 3)).alloc (Obj.cells #[Value.int IntKind.i64 1, Value.int IntKind.i64 2, Value.int IntKind.i64 3, Value.int IntKind.i64 4] 3)).alloc (Obj.cells #[Value.int IntKind.i64 1, Value.int IntKind.i64 3, Value.int IntKind.i64 5, Value.int IntKind.i64 4] 3)) := below_alloc (below_alloc (below_alloc (Below.refl _ _) _) _) _
  have codes0 := World.alloc_heap_new w (Obj.cells #[Value.int IntKind.i64 1, Value.int IntKind.i64 2, Value.int IntKind.i64 3, Value.int IntKind.i64 4, Value.int IntKind.i64 5] 3)
  have codes_ : Kd.C (Kd.int .i64) (((w.alloc (Obj.cells #[Value.int IntKind.i64 1, Value.int IntKind.i64 2, Value.int IntKind.i64 3, Value.int IntKind.i64 4, Value.int IntKind.i64 5] 3)).alloc (Obj.cells #[Value.int IntKind.i64 1, Value.int IntKind.i64 2, Value.int IntKind.i64 3, Value.int IntKind.i64 4] 3)).alloc (Obj.cells #[Value.int IntKind.i64 1, Value.int IntKind.i64 3, Value.int IntKind.i64 5, Value.int IntKind.i64 4] 3)) (some ⟨w.heap.size, 0, none⟩) 5 [1, 2, 3, 4, 5] := fp_row.C (r := [1, 2, 3, 4, 5]) (blk_alloc (blk_alloc codes0 _) _) (by decide)
  clear codes0
  have x10 := World.alloc_heap_new (w.alloc (Obj.cells #[Value.int IntKind.i64 1, Value.int IntKind.i64 2, Value.int IntKind.i64 3, Value.int IntKind.i64 4, Value.int IntKind.i64 5] 3)) (Obj.cells #[Value.int IntKind.i64 1, Value.int IntKind.i64 2, Value.int IntKind.i64 3, Value.int IntKind.i64 4] 3)
  simp only [World.size_alloc] at x10
  have x1_ : Kd.C (Kd.int .i64) (((w.alloc (Obj.cells #[Value.int IntKind.i64 1, Value.int IntKind.i64 2, Value.int IntKind.i64 3, Value.int IntKind.i64 4, Value.int IntKind.i64 5] 3)).alloc (Obj.cells #[Value.int IntKind.i64 1, Value.int IntKind.i64 2, Value.int IntKind.i64 3, Value.int IntKind.i64 4] 3)).alloc (Obj.cells #[Value.int IntKind.i64 1, Value.int IntKind.i64 3, Value.int IntKind.i64 5, Value.int IntKind.i64 4] 3)) (some ⟨w.heap.size + 1, 0, none⟩) 4 [1, 2, 3, 4] := fp_row.C (r := [1, 2, 3, 4]) (blk_alloc x10 _) (by decide)
  clear x10
  have x20 := World.alloc_heap_new ((w.alloc (Obj.cells #[Value.int IntKind.i64 1, Value.int IntKind.i64 2, Value.int IntKind.i64 3, Value.int IntKind.i64 4, Value.int IntKind.i64 5] 3)).alloc (Obj.cells #[Value.int IntKind.i64 1, Value.int IntKind.i64 2, Value.int IntKind.i64 3, Value.int IntKind.i64 4] 3)) (Obj.cells #[Value.int IntKind.i64 1, Value.int IntKind.i64 3, Value.int IntKind.i64 5, Value.int IntKind.i64 4] 3)
  simp only [World.size_alloc] at x20
  have x2_ : Kd.C (Kd.int .i64) (((w.alloc (Obj.cells #[Value.int IntKind.i64 1, Value.int IntKind.i64 2, Value.int IntKind.i64 3, Value.int IntKind.i64 4, Value.int IntKind.i64 5] 3)).alloc (Obj.cells #[Value.int IntKind.i64 1, Value.int IntKind.i64 2, Value.int IntKind.i64 3, Value.int IntKind.i64 4] 3)).alloc (Obj.cells #[Value.int IntKind.i64 1, Value.int IntKind.i64 3, Value.int IntKind.i64 5, Value.int IntKind.i64 4] 3)) (some ⟨w.heap.size + 1 + 1, 0, none⟩) 4 [1, 3, 5, 4] := fp_row.C (r := [1, 3, 5, 4]) x20 (by decide)
  clear x20
  refine (fingerprint_Distance.calls (some ⟨w.heap.size + 1, 0, none⟩) 4 [1, 2, 3, 4] (some ⟨w.heap.size + 1 + 1, 0, none⟩) 4 [1, 3, 5, 4] 2 0 _ x1_ (by decide) x2_ (by decide) (by decide +kernel)).mono ?_
  rintro e v0 ⟨rfl, hbb⟩
  have codes := Aside0.mk (show Kd.C (Kd.int .i64) v0 (some ⟨w.heap.size, 0, none⟩) 5 [1, 2, 3, 4, 5] from Kd.C_below codes_ hbb)
  have x1 := Aside0.mk (show Kd.C (Kd.int .i64) v0 (some ⟨w.heap.size + 1, 0, none⟩) 4 [1, 2, 3, 4] from Kd.C_below x1_ hbb)
  have x2 := Aside0.mk (show Kd.C (Kd.int .i64) v0 (some ⟨w.heap.size + 1 + 1, 0, none⟩) 4 [1, 3, 5, 4] from Kd.C_below x2_ hbb)
  have HB_ := Aside0.mk (below_step HB.out (below_step hb0 hbb))
  clear HB hbb hb0 codes_ x1_ x2_
  have HB := HB_; clear HB_
  clear x1 x2
  go_wp2_with fail
  have hb1 : Below v0.heap.size v0 (v0.alloc (Obj.cells #[Value.int IntKind.i64 2, Value.int IntKind.i64 9, Value.int IntKind.i64 4] 3)) := below_alloc (Below.refl _ _) _
  have codes_ : Kd.C (Kd.int .i64) (v0.alloc (Obj.cells #[Value.int IntKind.i64 2, Value.int IntKind.i64 9, Value.int IntKind.i64 4] 3)) (some ⟨w.heap.size, 0, none⟩) 5 [1, 2, 3, 4, 5] := Kd.C_below codes.out hb1
  have x10 := World.alloc_heap_new v0 (Obj.cells #[Value.int IntKind.i64 2, Value.int IntKind.i64 9, Value.int IntKind.i64 4] 3)
  have x1_ : Kd.C (Kd.int .i64) (v0.alloc (Obj.cells #[Value.int IntKind.i64 2, Value.int IntKind.i64 9, Value.int IntKind.i64 4] 3)) (some ⟨v0.heap.size, 0, none⟩) 3 [2, 9, 4] := fp_row.C (r := [2, 9, 4]) x10 (by decide)
  clear x10
  clear codes
  refine (fingerprint_Align.calls 100 (some ⟨v0.heap.size, 0, none⟩) 3 [2, 9, 4] (some ⟨w.heap.size, 0, none⟩) 5 [1, 2, 3, 4, 5] 0 1 4 1 [1, 2, 1] 0 _ x1_ (by decide) codes_ (by decide) (by decide +kernel)).mono ?_
  rintro e v1 ⟨v_, rfl, mR, hbb⟩
  have codes := Aside0.mk (show Kd.C (Kd.int .i64) v1 (some ⟨w.heap.size, 0, none⟩) 5 [1, 2, 3, 4, 5] from Kd.C_below codes_ hbb)
  have x1 := Aside0.mk (show Kd.C (Kd.int .i64) v1 (some ⟨v0.heap.size, 0, none⟩) 3 [2, 9, 4] from Kd.C_below x1_ hbb)
  have HB_ := Aside0.mk (below_step HB.out (below_step hb1 hbb))
  clear HB hbb hb1 codes_ x1_
  have HB := HB_; clear HB_
  clear x1
  obtain ⟨mA, mc, rfl⟩ := Kd.R_slice mR
  have ml := Aside0.mk (show 3 ≤ mc from (Kd.R_reads' mR).2.1)
  have m := Aside0.mk (show Kd.C (Kd.int .i64) v1 (mA) 3 [1, 2, 1] from (Kd.R_reads' mR).2.2)
  clear mR
  go_wp2_with fail
  have hb2 : Below v1.heap.size v1 ((v1.alloc (Obj.cells #[Value.int IntKind.i64 0, Value.int IntKind.i64 1, Value.int IntKind.i64 4, Value.int IntKind.i64 1, Value.slice mA 3 mc] 25)).alloc (Obj.cells #[Value.int IntKind.i64 2, Value.int IntKind.i64 4] 3)) := below_alloc (below_alloc (Below.refl _ _) _) _
  have codes_ : Kd.C (Kd.int .i64) ((v1.alloc (Obj.cells #[Value.int IntKind.i64 0, Value.int IntKind.i64 1, Value.int IntKind.i64 4, Value.int IntKind.i64 1, Value.slice mA 3 mc] 25)).alloc (Obj.cells #[Value.int IntKind.i64 2, Value.int IntKind.i64 4] 3)) (some ⟨w.heap.size, 0, none⟩) 5 [1, 2, 3, 4, 5] := Kd.C_below codes.out hb2
  have m_ : Kd.C (Kd.int .i64) ((v1.alloc (Obj.cells #[Value.int IntKind.i64 0, Value.int IntKind.i64 1, Value.int IntKind.i64 4, Value.int IntKind.i64 1, Value.slice mA 3 mc] 25)).alloc (Obj.cells #[Value.int IntKind.i64 2, Value.int IntKind.i64 4] 3)) (mA) 3 [1, 2, 1] := Kd.C_below m.out hb2
  have mm0 := World.alloc_heap_new v1 (Obj.cells #[Value.int IntKind.i64 0, Value.int IntKind.i64 1, Value.int IntKind.i64 4, Value.int IntKind.i64 1, Value.slice mA 3 mc] 25)
  have mm_ : ((v1.alloc (Obj.cells #[Value.int IntKind.i64 0, Value.int IntKind.i64 1, Value.int IntKind.i64 4, Value.int IntKind.i64 1, Value.slice mA 3 mc] 25)).alloc (Obj.cells #[Value.int IntKind.i64 2, Value.int IntKind.i64 4] 3)).heap[v1.heap.size]? = some (Obj.cells #[Value.int IntKind.i64 0, Value.int IntKind.i64 1, Value.int IntKind.i64 4, Value.int IntKind.i64 1, Value.slice mA 3 mc] 25 (0, 0)) := (blk_alloc mm0 _)
  clear mm0
  have x10 := World.alloc_heap_new (v1.alloc (Obj.cells #[Value.int IntKind.i64 0, Value.int IntKind.i64 1, Value.int IntKind.i64 4, Value.int IntKind.i64 1, Value.slice mA 3 mc] 25)) (Obj.cells #[Value.int IntKind.i64 2, Value.int IntKind.i64 4] 3)
  simp only [World.size_alloc] at x10
  have x1_ : Kd.C (Kd.int .i64) ((v1.alloc (Obj.cells #[Value.int IntKind.i64 0, Value.int IntKind.i64 1, Value.int IntKind.i64 4, Value.int IntKind.i64 1, Value.slice mA 3 mc] 25)).alloc (Obj.cells #[Value.int IntKind.i64 2, Value.int IntKind.i64 4] 3)) (some ⟨v1.heap.size + 1, 0, none⟩) 2 [2, 4] := fp_row.C (r := [2, 4]) x10 (by decide)
  clear x10
  clear codes
  clear m
  refine (fingerprint_Align.calls 100 (some ⟨v1.heap.size + 1, 0, none⟩) 2 [2, 4] (some ⟨w.heap.size, 0, none⟩) 5 [1, 2, 3, 4, 5] 0 1 2 1 [1, 3] 0 _ x1_ (by decide) codes_ (by decide) (by decide +kernel)).mono ?_
  rintro e v2 ⟨v_, rfl, nR, hbb⟩
  have codes := Aside0.mk (show Kd.C (Kd.int .i64) v2 (some ⟨w.heap.size, 0, none⟩) 5 [1, 2, 3, 4, 5] from Kd.C_below codes_ hbb)
  have m := Aside0.mk (show Kd.C (Kd.int .i64) v2 (mA) 3 [1, 2, 1] from Kd.C_below m_ hbb)
  have mm := Aside0.mk (show v2.heap[v1.heap.size]? = some (Obj.cells #[Value.int IntKind.i64 0, Value.int IntKind.i64 1, Value.int IntKind.i64 4, Value.int IntKind.i64 1, Value.slice mA 3 mc] 25 (0, 0)) from blk_below mm_ hbb)
  have x1 := Aside0.mk (show Kd.C (Kd.int .i64) v2 (some ⟨v1.heap.size + 1, 0, none⟩) 2 [2, 4] from Kd.C_below x1_ hbb)
  have HB_ := Aside0.mk (below_step HB.out (below_step hb2 hbb))
  clear HB hbb hb2 codes_ m_ mm_ x1_
  have HB := HB_; clear HB_
  clear x1
  obtain ⟨nA, nc, rfl⟩ := Kd.R_slice nR
  have nl := Aside0.mk (show 2 ≤ nc from (Kd.R_reads' nR).2.1)
  have n := Aside0.mk (show Kd.C (Kd.int .i64) v2 (nA) 2 [1, 3] from (Kd.R_reads' nR).2.2)
  clear nR
  go_wp2_with fail
  have hb3 : Below v2.heap.size v2 (((v2.alloc (Obj.cells #[Value.int IntKind.i64 0, Value.int IntKind.i64 1, Value.int IntKind.i64 2, Value.int IntKind.i64 1, Value.slice nA 2 nc] 25)).alloc (Obj.cells #[Value.int IntKind.i64 (-1), Value.int IntKind.i64 3] 3)).alloc (Obj.cells #[Value.int IntKind.i64 3, Value.int IntKind.i64 3, Value.int IntKind.i64 3] 3)) := below_alloc (below_alloc (below_alloc (Below.refl _ _) _) _) _
  have codes_ : Kd.C (Kd.int .i64) (((v2.alloc (Obj.cells #[Value.int IntKind.i64 0, Value.int IntKind.i64 1, Value.int IntKind.i64 2, Value.int IntKind.i64 1, Value.slice nA 2 nc] 25)).alloc (Obj.cells #[Value.int IntKind.i64 (-1), Value.int IntKind.i64 3] 3)).alloc (Obj.cells #[Value.int IntKind.i64 3, Value.int IntKind.i64 3, Value.int IntKind.i64 3] 3)) (some ⟨w.heap.size, 0, none⟩) 5 [1, 2, 3, 4, 5] := Kd.C_below codes.out hb3
  have m_ : Kd.C (Kd.int .i64) (((v2.alloc (Obj.cells #[Value.int IntKind.i64 0, Value.int IntKind.i64 1, Value.int IntKind.i64 2, Value.int IntKind.i64 1, Value.slice nA 2 nc] 25)).alloc (Obj.cells #[Value.int IntKind.i64 (-1), Value.int IntKind.i64 3] 3)).alloc (Obj.cells #[Value.int IntKind.i64 3, Value.int IntKind.i64 3, Value.int IntKind.i64 3] 3)) (mA) 3 [1, 2, 1] := Kd.C_below m.out hb3
  have mm_ : (((v2.alloc (Obj.cells #[Value.int IntKind.i64 0, Value.int IntKind.i64 1, Value.int IntKind.i64 2, Value.int IntKind.i64 1, Value.slice nA 2 nc] 25)).alloc (Obj.cells #[Value.int IntKind.i64 (-1), Value.int IntKind.i64 3] 3)).alloc (Obj.cells #[Value.int IntKind.i64 3, Value.int IntKind.i64 3, Value.int IntKind.i64 3] 3)).heap[v1.heap.size]? = some (Obj.cells #[Value.int IntKind.i64 0, Value.int IntKind.i64 1, Value.int IntKind.i64 4, Value.int IntKind.i64 1, Value.slice mA 3 mc] 25 (0, 0)) := blk_below mm.out hb3
  have n_ : Kd.C (Kd.int .i64) (((v2.alloc (Obj.cells #[Value.int IntKind.i64 0, Value.int IntKind.i64 1, Value.int IntKind.i64 2, Value.int IntKind.i64 1, Value.slice nA 2 nc] 25)).alloc (Obj.cells #[Value.int IntKind.i64 (-1), Value.int IntKind.i64 3] 3)).alloc (Obj.cells #[Value.int IntKind.i64 3, Value.int IntKind.i64 3, Value.int IntKind.i64 3] 3)) (nA) 2 [1, 3] := Kd.C_below n.out hb3
  have nm0 := World.alloc_heap_new v2 (Obj.cells #[Value.int IntKind.i64 0, Value.int IntKind.i64 1, Value.int IntKind.i64 2, Value.int IntKind.i64 1, Value.slice nA 2 nc] 25)
  have nm_ : (((v2.alloc (Obj.cells #[Value.int IntKind.i64 0, Value.int IntKind.i64 1, Value.int IntKind.i64 2, Value.int IntKind.i64 1, Value.slice nA 2 nc] 25)).alloc (Obj.cells #[Value.int IntKind.i64 (-1), Value.int IntKind.i64 3] 3)).alloc (Obj.cells #[Value.int IntKind.i64 3, Value.int IntKind.i64 3, Value.int IntKind.i64 3] 3)).heap[v2.heap.size]? = some (Obj.cells #[Value.int IntKind.i64 0, Value.int IntKind.i64 1, Value.int IntKind.i64 2, Value.int IntKind.i64 1, Value.slice nA 2 nc] 25 (0, 0)) := (blk_alloc (blk_alloc nm0 _) _)
  clear nm0
  have x10 := World.alloc_heap_new (v2.alloc (Obj.cells #[Value.int IntKind.i64 0, Value.int IntKind.i64 1, Value.int IntKind.i64 2, Value.int IntKind.i64 1, Value.slice nA 2 nc] 25)) (Obj.cells #[Value.int IntKind.i64 (-1), Value.int IntKind.i64 3] 3)
  simp only [World.size_alloc] at x10
  have x1_ : Kd.C (Kd.int .i64) (((v2.alloc (Obj.cells #[Value.int IntKind.i64 0, Value.int IntKind.i64 1, Value.int IntKind.i64 2, Value.int IntKind.i64 1, Value.slice nA 2 nc] 25)).alloc (Obj.cells #[Value.int IntKind.i64 (-1), Value.int IntKind.i64 3] 3)).alloc (Obj.cells #[Value.int IntKind.i64 3, Value.int IntKind.i64 3, Value.int IntKind.i64 3] 3)) (some ⟨v2.heap.size + 1, 0, none⟩) 2 [-1, 3] := fp_row.C (r := [-1, 3]) (blk_alloc x10 _) (by decide)
  clear x10
  have x20 := World.alloc_heap_new ((v2.alloc (Obj.cells #[Value.int IntKind.i64 0, Value.int IntKind.i64 1, Value.int IntKind.i64 2, Value.int IntKind.i64 1, Value.slice nA 2 nc] 25)).alloc (Obj.cells #[Value.int IntKind.i64 (-1), Value.int IntKind.i64 3] 3)) (Obj.cells #[Value.int IntKind.i64 3, Value.int IntKind.i64 3, Value.int IntKind.i64 3] 3)
  simp only [World.size_alloc] at x20
  have x2_ : Kd.C (Kd.int .i64) (((v2.alloc (Obj.cells #[Value.int IntKind.i64 0, Value.int IntKind.i64 1, Value.int IntKind.i64 2, Value.int IntKind.i64 1, Value.slice nA 2 nc] 25)).alloc (Obj.cells #[Value.int IntKind.i64 (-1), Value.int IntKind.i64 3] 3)).alloc (Obj.cells #[Value.int IntKind.i64 3, Value.int IntKind.i64 3, Value.int IntKind.i64 3] 3)) (some ⟨v2.heap.size + 1 + 1, 0, none⟩) 3 [3, 3, 3] := fp_row.C (r := [3, 3, 3]) x20 (by decide)
  clear x20
  clear codes
  clear m
  clear mm
  clear n
  refine (fingerprint_Cost.calls 100 (some ⟨v2.heap.size + 1, 0, none⟩) 2 [-1, 3] (some ⟨v2.heap.size + 1 + 1, 0, none⟩) 3 [3, 3, 3] 1 0 _ x1_ (by decide) x2_ (by decide) (by decide +kernel)).mono ?_
  rintro e v3 ⟨rfl, hbb⟩
  have codes := Aside0.mk (show Kd.C (Kd.int .i64) v3 (some ⟨w.heap.size, 0, none⟩) 5 [1, 2, 3, 4, 5] from Kd.C_below codes_ hbb)
  have m := Aside0.mk (show Kd.C (Kd.int .i64) v3 (mA) 3 [1, 2, 1] from Kd.C_below m_ hbb)
  have mm := Aside0.mk (show v3.heap[v1.heap.size]? = some (Obj.cells #[Value.int IntKind.i64 0, Value.int IntKind.i64 1, Value.int IntKind.i64 4, Value.int IntKind.i64 1, Value.slice mA 3 mc] 25 (0, 0)) from blk_below mm_ hbb)
  have n := Aside0.mk (show Kd.C (Kd.int .i64) v3 (nA) 2 [1, 3] from Kd.C_below n_ hbb)
  have nm := Aside0.mk (show v3.heap[v2.heap.size]? = some (Obj.cells #[Value.int IntKind.i64 0, Value.int IntKind.i64 1, Value.int IntKind.i64 2, Value.int IntKind.i64 1, Value.slice nA 2 nc] 25 (0, 0)) from blk_below nm_ hbb)
  have x1 := Aside0.mk (show Kd.C (Kd.int .i64) v3 (some ⟨v2.heap.size + 1, 0, none⟩) 2 [-1, 3] from Kd.C_below x1_ hbb)
  have x2 := Aside0.mk (show Kd.C (Kd.int .i64) v3 (some ⟨v2.heap.size + 1 + 1, 0, none⟩) 3 [3, 3, 3] from Kd.C_below x2_ hbb)
  have HB_ := Aside0.mk (below_step HB.out (below_step hb3 hbb))
  clear HB hbb hb3 codes_ m_ mm_ n_ nm_ x1_ x2_
  have HB := HB_; clear HB_
  clear x1 x2
  go_wp2_with fail
  have hb4 : Below v3.heap.size v3 (v3.alloc (Obj.cells #[Value.int IntKind.i64 2, Value.int IntKind.i64 9, Value.int IntKind.i64 4] 3)) := below_alloc (Below.refl _ _) _
  have codes_ : Kd.C (Kd.int .i64) (v3.alloc (Obj.cells #[Value.int IntKind.i64 2, Value.int IntKind.i64 9, Value.int IntKind.i64 4] 3)) (some ⟨w.heap.size, 0, none⟩) 5 [1, 2, 3, 4, 5] := Kd.C_below codes.out hb4
  have m_ : Kd.C (Kd.int .i64) (v3.alloc (Obj.cells #[Value.int IntKind.i64 2, Value.int IntKind.i64 9, Value.int IntKind.i64 4] 3)) (mA) 3 [1, 2, 1] := Kd.C_below m.out hb4
  have mm_ : (v3.alloc (Obj.cells #[Value.int IntKind.i64 2, Value.int IntKind.i64 9, Value.int IntKind.i64 4] 3)).heap[v1.heap.size]? = some (Obj.cells #[Value.int IntKind.i64 0, Value.int IntKind.i64 1, Value.int IntKind.i64 4, Value.int IntKind.i64 1, Value.slice mA 3 mc] 25 (0, 0)) := blk_below mm.out hb4
  have n_ : Kd.C (Kd.int .i64) (v3.alloc (Obj.cells #[Value.int IntKind.i64 2, Value.int IntKind.i64 9, Value.int IntKind.i64 4] 3)) (nA) 2 [1, 3] := Kd.C_below n.out hb4
  have nm_ : (v3.alloc (Obj.cells #[Value.int IntKind.i64 2, Value.int IntKind.i64 9, Value.int IntKind.i64 4] 3)).heap[v2.heap.size]? = some (Obj.cells #[Value.int IntKind.i64 0, Value.int IntKind.i64 1, Value.int IntKind.i64 2, Value.int IntKind.i64 1, Value.slice nA 2 nc] 25 (0, 0)) := blk_below nm.out hb4
  have x10 := World.alloc_heap_new v3 (Obj.cells #[Value.int IntKind.i64 2, Value.int IntKind.i64 9, Value.int IntKind.i64 4] 3)
  have x1_ : Kd.C (Kd.int .i64) (v3.alloc (Obj.cells #[Value.int IntKind.i64 2, Value.int IntKind.i64 9, Value.int IntKind.i64 4] 3)) (some ⟨v3.heap.size, 0, none⟩) 3 [2, 9, 4] := fp_row.C (r := [2, 9, 4]) x10 (by decide)
  clear x10
  clear codes
  clear m
  clear mm
  clear n
  clear nm
  refine (fingerprint_Table.calls (some ⟨v3.heap.size, 0, none⟩) 3 [2, 9, 4] (some ⟨w.heap.size, 0, none⟩) 5 [1, 2, 3, 4, 5] (fp_rowsP [2, 9, 4] [1, 2, 3, 4, 5] true) 0 _ x1_ (by decide) codes_ (by decide) (by decide +kernel)).mono ?_
  rintro e v4 ⟨v_, rfl, tS, hbb⟩
  have codes := Aside0.mk (show Kd.C (Kd.int .i64) v4 (some ⟨w.heap.size, 0, none⟩) 5 [1, 2, 3, 4, 5] from Kd.C_below codes_ hbb)
  have m := Aside0.mk (show Kd.C (Kd.int .i64) v4 (mA) 3 [1, 2, 1] from Kd.C_below m_ hbb)
  have mm := Aside0.mk (show v4.heap[v1.heap.size]? = some (Obj.cells #[Value.int IntKind.i64 0, Value.int IntKind.i64 1, Value.int IntKind.i64 4, Value.int IntKind.i64 1, Value.slice mA 3 mc] 25 (0, 0)) from blk_below mm_ hbb)
  have n := Aside0.mk (show Kd.C (Kd.int .i64) v4 (nA) 2 [1, 3] from Kd.C_below n_ hbb)
  have nm := Aside0.mk (show v4.heap[v2.heap.size]? = some (Obj.cells #[Value.int IntKind.i64 0, Value.int IntKind.i64 1, Value.int IntKind.i64 2, Value.int IntKind.i64 1, Value.slice nA 2 nc] 25 (0, 0)) from blk_below nm_ hbb)
  have x1 := Aside0.mk (show Kd.C (Kd.int .i64) v4 (some ⟨v3.heap.size, 0, none⟩) 3 [2, 9, 4] from Kd.C_below x1_ hbb)
  have HB_ := Aside0.mk (below_step HB.out (below_step hb4 hbb))
  clear HB hbb hb4 codes_ m_ mm_ n_ nm_ x1_
  have HB := HB_; clear HB_
  clear x1
  obtain ⟨tA, tc, rfl⟩ := Kd.R_slice (Kd.S_R tS)
  have t3 := Kd.R_reads' (Kd.S_R tS)
  have tl := Aside0.mk t3.2.1
  have t := Aside0.mk (show Kd.C (Kd.slice 3 (Kd.int .i64)) v4 tA (fp_rowsP [2, 9, 4] [1, 2, 3, 4, 5] true).length (fp_rowsP [2, 9, 4] [1, 2, 3, 4, 5] true) from t3.2.2)
  clear t3 tS
  go_wp2_with fail
  have hb5 : Below v4.heap.size v4 (v4.alloc (Obj.cells #[Value.int IntKind.i64 2, Value.int IntKind.i64 9, Value.int IntKind.i64 4] 3)) := below_alloc (Below.refl _ _) _
  have codes_ : Kd.C (Kd.int .i64) (v4.alloc (Obj.cells #[Value.int IntKind.i64 2, Value.int IntKind.i64 9, Value.int IntKind.i64 4] 3)) (some ⟨w.heap.size, 0, none⟩) 5 [1, 2, 3, 4, 5] := Kd.C_below codes.out hb5
  have m_ : Kd.C (Kd.int .i64) (v4.alloc (Obj.cells #[Value.int IntKind.i64 2, Value.int IntKind.i64 9, Value.int IntKind.i64 4] 3)) (mA) 3 [1, 2, 1] := Kd.C_below m.out hb5
  have mm_ : (v4.alloc (Obj.cells #[Value.int IntKind.i64 2, Value.int IntKind.i64 9, Value.int IntKind.i64 4] 3)).heap[v1.heap.size]? = some (Obj.cells #[Value.int IntKind.i64 0, Value.int IntKind.i64 1, Value.int IntKind.i64 4, Value.int IntKind.i64 1, Value.slice mA 3 mc] 25 (0, 0)) := blk_below mm.out hb5
  have n_ : Kd.C (Kd.int .i64) (v4.alloc (Obj.cells #[Value.int IntKind.i64 2, Value.int IntKind.i64 9, Value.int IntKind.i64 4] 3)) (nA) 2 [1, 3] := Kd.C_below n.out hb5
  have nm_ : (v4.alloc (Obj.cells #[Value.int IntKind.i64 2, Value.int IntKind.i64 9, Value.int IntKind.i64 4] 3)).heap[v2.heap.size]? = some (Obj.cells #[Value.int IntKind.i64 0, Value.int IntKind.i64 1, Value.int IntKind.i64 2, Value.int IntKind.i64 1, Value.slice nA 2 nc] 25 (0, 0)) := blk_below nm.out hb5
  have t_ : Kd.C (Kd.slice 3 (Kd.int .i64)) (v4.alloc (Obj.cells #[Value.int IntKind.i64 2, Value.int IntKind.i64 9, Value.int IntKind.i64 4] 3)) tA (fp_rowsP [2, 9, 4] [1, 2, 3, 4, 5] true).length (fp_rowsP [2, 9, 4] [1, 2, 3, 4, 5] true) := Kd.C_below t.out hb5
  have x10 := World.alloc_heap_new v4 (Obj.cells #[Value.int IntKind.i64 2, Value.int IntKind.i64 9, Value.int IntKind.i64 4] 3)
  have x1_ : Kd.C (Kd.int .i64) (v4.alloc (Obj.cells #[Value.int IntKind.i64 2, Value.int IntKind.i64 9, Value.int IntKind.i64 4] 3)) (some ⟨v4.heap.size, 0, none⟩) 3 [2, 9, 4] := fp_row.C (r := [2, 9, 4]) x10 (by decide)
  clear x10
  clear codes
  clear m
  clear mm
  clear n
  clear nm
  clear t
  refine (fingerprint_Bound.calls 1000 (some ⟨v4.heap.size, 0, none⟩) 3 [2, 9, 4] (some ⟨w.heap.size, 0, none⟩) 5 [1, 2, 3, 4, 5] tA tc (fp_rowsP [2, 9, 4] [1, 2, 3, 4, 5] true) 1 true _ x1_ (by decide) codes_ (by decide) t_ tl.out (by decide +kernel)).mono ?_
  rintro e v5 ⟨rfl, hbb⟩
  have codes := Aside0.mk (show Kd.C (Kd.int .i64) v5 (some ⟨w.heap.size, 0, none⟩) 5 [1, 2, 3, 4, 5] from Kd.C_below codes_ hbb)
  have m := Aside0.mk (show Kd.C (Kd.int .i64) v5 (mA) 3 [1, 2, 1] from Kd.C_below m_ hbb)
  have mm := Aside0.mk (show v5.heap[v1.heap.size]? = some (Obj.cells #[Value.int IntKind.i64 0, Value.int IntKind.i64 1, Value.int IntKind.i64 4, Value.int IntKind.i64 1, Value.slice mA 3 mc] 25 (0, 0)) from blk_below mm_ hbb)
  have n := Aside0.mk (show Kd.C (Kd.int .i64) v5 (nA) 2 [1, 3] from Kd.C_below n_ hbb)
  have nm := Aside0.mk (show v5.heap[v2.heap.size]? = some (Obj.cells #[Value.int IntKind.i64 0, Value.int IntKind.i64 1, Value.int IntKind.i64 2, Value.int IntKind.i64 1, Value.slice nA 2 nc] 25 (0, 0)) from blk_below nm_ hbb)
  have t := Aside0.mk (show Kd.C (Kd.slice 3 (Kd.int .i64)) v5 tA (fp_rowsP [2, 9, 4] [1, 2, 3, 4, 5] true).length (fp_rowsP [2, 9, 4] [1, 2, 3, 4, 5] true) from Kd.C_below t_ hbb)
  have x1 := Aside0.mk (show Kd.C (Kd.int .i64) v5 (some ⟨v4.heap.size, 0, none⟩) 3 [2, 9, 4] from Kd.C_below x1_ hbb)
  have HB_ := Aside0.mk (below_step HB.out (below_step hb5 hbb))
  clear HB hbb hb5 codes_ m_ mm_ n_ nm_ t_ x1_
  have HB := HB_; clear HB_
  clear x1 t
  clear tl
  go_wp2_with fail
  have hb6 : Below v5.heap.size v5 (((v5.alloc (Obj.cells #[Value.int IntKind.i64 7, Value.int IntKind.i64 8] 3)).alloc (Obj.cells #[Value.int IntKind.i64 3, Value.slice (some ⟨v5.heap.size, 0, none⟩) 2 2, Value.int IntKind.i64 5, Value.slice (some ⟨w.heap.size, 0, none⟩) 5 5] 34)).alloc (Obj.cells #[Value.int IntKind.i64 2, Value.int IntKind.i64 9, Value.int IntKind.i64 4] 3)) := below_alloc (below_alloc (below_alloc (Below.refl _ _) _) _) _
  have codes_ : Kd.C (Kd.int .i64) (((v5.alloc (Obj.cells #[Value.int IntKind.i64 7, Value.int IntKind.i64 8] 3)).alloc (Obj.cells #[Value.int IntKind.i64 3, Value.slice (some ⟨v5.heap.size, 0, none⟩) 2 2, Value.int IntKind.i64 5, Value.slice (some ⟨w.heap.size, 0, none⟩) 5 5] 34)).alloc (Obj.cells #[Value.int IntKind.i64 2, Value.int IntKind.i64 9, Value.int IntKind.i64 4] 3)) (some ⟨w.heap.size, 0, none⟩) 5 [1, 2, 3, 4, 5] := Kd.C_below codes.out hb6
  have m_ : Kd.C (Kd.int .i64) (((v5.alloc (Obj.cells #[Value.int IntKind.i64 7, Value.int IntKind.i64 8] 3)).alloc (Obj.cells #[Value.int IntKind.i64 3, Value.slice (some ⟨v5.heap.size, 0, none⟩) 2 2, Value.int IntKind.i64 5, Value.slice (some ⟨w.heap.size, 0, none⟩) 5 5] 34)).alloc (Obj.cells #[Value.int IntKind.i64 2, Value.int IntKind.i64 9, Value.int IntKind.i64 4] 3)) (mA) 3 [1, 2, 1] := Kd.C_below m.out hb6
  have mm_ : (((v5.alloc (Obj.cells #[Value.int IntKind.i64 7, Value.int IntKind.i64 8] 3)).alloc (Obj.cells #[Value.int IntKind.i64 3, Value.slice (some ⟨v5.heap.size, 0, none⟩) 2 2, Value.int IntKind.i64 5, Value.slice (some ⟨w.heap.size, 0, none⟩) 5 5] 34)).alloc (Obj.cells #[Value.int IntKind.i64 2, Value.int IntKind.i64 9, Value.int IntKind.i64 4] 3)).heap[v1.heap.size]? = some (Obj.cells #[Value.int IntKind.i64 0, Value.int IntKind.i64 1, Value.int IntKind.i64 4, Value.int IntKind.i64 1, Value.slice mA 3 mc] 25 (0, 0)) := blk_below mm.out hb6
  have n_ : Kd.C (Kd.int .i64) (((v5.alloc (Obj.cells #[Value.int IntKind.i64 7, Value.int IntKind.i64 8] 3)).alloc (Obj.cells #[Value.int IntKind.i64 3, Value.slice (some ⟨v5.heap.size, 0, none⟩) 2 2, Value.int IntKind.i64 5, Value.slice (some ⟨w.heap.size, 0, none⟩) 5 5] 34)).alloc (Obj.cells #[Value.int IntKind.i64 2, Value.int IntKind.i64 9, Value.int IntKind.i64 4] 3)) (nA) 2 [1, 3] := Kd.C_below n.out hb6
  have nm_ : (((v5.alloc (Obj.cells #[Value.int IntKind.i64 7, Value.int IntKind.i64 8] 3)).alloc (Obj.cells #[Value.int IntKind.i64 3, Value.slice (some ⟨v5.heap.size, 0, none⟩) 2 2, Value.int IntKind.i64 5, Value.slice (some ⟨w.heap.size, 0, none⟩) 5 5] 34)).alloc (Obj.cells #[Value.int IntKind.i64 2, Value.int IntKind.i64 9, Value.int IntKind.i64 4] 3)).heap[v2.heap.size]? = some (Obj.cells #[Value.int IntKind.i64 0, Value.int IntKind.i64 1, Value.int IntKind.i64 2, Value.int IntKind.i64 1, Value.slice nA 2 nc] 25 (0, 0)) := blk_below nm.out hb6
  have x10 := World.alloc_heap_new v5 (Obj.cells #[Value.int IntKind.i64 7, Value.int IntKind.i64 8] 3)
  have x1_ : Kd.C (Kd.int .i64) (((v5.alloc (Obj.cells #[Value.int IntKind.i64 7, Value.int IntKind.i64 8] 3)).alloc (Obj.cells #[Value.int IntKind.i64 3, Value.slice (some ⟨v5.heap.size, 0, none⟩) 2 2, Value.int IntKind.i64 5, Value.slice (some ⟨w.heap.size, 0, none⟩) 5 5] 34)).alloc (Obj.cells #[Value.int IntKind.i64 2, Value.int IntKind.i64 9, Value.int IntKind.i64 4] 3)) (some ⟨v5.heap.size, 0, none⟩) 2 [7, 8] := fp_row.C (r := [7, 8]) (blk_alloc (blk_alloc x10 _) _) (by decide)
  clear x10
  have pr0 := World.alloc_heap_new (v5.alloc (Obj.cells #[Value.int IntKind.i64 7, Value.int IntKind.i64 8] 3)) (Obj.cells #[Value.int IntKind.i64 3, Value.slice (some ⟨v5.heap.size, 0, none⟩) 2 2, Value.int IntKind.i64 5, Value.slice (some ⟨w.heap.size, 0, none⟩) 5 5] 34)
  simp only [World.size_alloc] at pr0
  have pr_ : (((v5.alloc (Obj.cells #[Value.int IntKind.i64 7, Value.int IntKind.i64 8] 3)).alloc (Obj.cells #[Value.int IntKind.i64 3, Value.slice (some ⟨v5.heap.size, 0, none⟩) 2 2, Value.int IntKind.i64 5, Value.slice (some ⟨w.heap.size, 0, none⟩) 5 5] 34)).alloc (Obj.cells #[Value.int IntKind.i64 2, Value.int IntKind.i64 9, Value.int IntKind.i64 4] 3)).heap[v5.heap.size + 1]? = some (Obj.cells #[Value.int IntKind.i64 3, Value.slice (some ⟨v5.heap.size, 0, none⟩) 2 2, Value.int IntKind.i64 5, Value.slice (some ⟨w.heap.size, 0, none⟩) 5 5] 34 (0, 0)) := (blk_alloc pr0 _)
  clear pr0
  have x20 := World.alloc_heap_new ((v5.alloc (Obj.cells #[Value.int IntKind.i64 7, Value.int IntKind.i64 8] 3)).alloc (Obj.cells #[Value.int IntKind.i64 3, Value.slice (some ⟨v5.heap.size, 0, none⟩) 2 2, Value.int IntKind.i64 5, Value.slice (some ⟨w.heap.size, 0, none⟩) 5 5] 34)) (Obj.cells #[Value.int IntKind.i64 2, Value.int IntKind.i64 9, Value.int IntKind.i64 4] 3)
  simp only [World.size_alloc] at x20
  have x2_ : Kd.C (Kd.int .i64) (((v5.alloc (Obj.cells #[Value.int IntKind.i64 7, Value.int IntKind.i64 8] 3)).alloc (Obj.cells #[Value.int IntKind.i64 3, Value.slice (some ⟨v5.heap.size, 0, none⟩) 2 2, Value.int IntKind.i64 5, Value.slice (some ⟨w.heap.size, 0, none⟩) 5 5] 34)).alloc (Obj.cells #[Value.int IntKind.i64 2, Value.int IntKind.i64 9, Value.int IntKind.i64 4] 3)) (some ⟨v5.heap.size + 1 + 1, 0, none⟩) 3 [2, 9, 4] := fp_row.C (r := [2, 9, 4]) x20 (by decide)
  clear x20
  clear codes
  clear m
  clear mm
  clear n
  clear nm
  refine (fingerprint_Best.calls 100 (some ⟨v5.heap.size + 1, 0, none⟩) 2 [⟨3, [7, 8]⟩, ⟨5, [1, 2, 3, 4, 5]⟩] (some ⟨v5.heap.size + 1 + 1, 0, none⟩) 3 [2, 9, 4] 5 1 4 1 [1, 2, 1] 3 0 _ (sane_two (x := ⟨3, [7, 8]⟩) (y := ⟨5, [1, 2, 3, 4, 5]⟩) pr_ (by decide) x1_ (by decide) codes_) (by decide) x2_ (by decide) (by kernel_rfl)).mono ?_
  rintro e v6 ⟨v_, rfl, bR, hbb⟩
  have codes := Aside0.mk (show Kd.C (Kd.int .i64) v6 (some ⟨w.heap.size, 0, none⟩) 5 [1, 2, 3, 4, 5] from Kd.C_below codes_ hbb)
  have m := Aside0.mk (show Kd.C (Kd.int .i64) v6 (mA) 3 [1, 2, 1] from Kd.C_below m_ hbb)
  have mm := Aside0.mk (show v6.heap[v1.heap.size]? = some (Obj.cells #[Value.int IntKind.i64 0, Value.int IntKind.i64 1, Value.int IntKind.i64 4, Value.int IntKind.i64 1, Value.slice mA 3 mc] 25 (0, 0)) from blk_below mm_ hbb)
  have n := Aside0.mk (show Kd.C (Kd.int .i64) v6 (nA) 2 [1, 3] from Kd.C_below n_ hbb)
  have nm := Aside0.mk (show v6.heap[v2.heap.size]? = some (Obj.cells #[Value.int IntKind.i64 0, Value.int IntKind.i64 1, Value.int IntKind.i64 2, Value.int IntKind.i64 1, Value.slice nA 2 nc] 25 (0, 0)) from blk_below nm_ hbb)
  have x1 := Aside0.mk (show Kd.C (Kd.int .i64) v6 (some ⟨v5.heap.size, 0, none⟩) 2 [7, 8] from Kd.C_below x1_ hbb)
  have pr := Aside0.mk (show v6.heap[v5.heap.size + 1]? = some (Obj.cells #[Value.int IntKind.i64 3, Value.slice (some ⟨v5.heap.size, 0, none⟩) 2 2, Value.int IntKind.i64 5, Value.slice (some ⟨w.heap.size, 0, none⟩) 5 5] 34 (0, 0)) from blk_below pr_ hbb)
  have x2 := Aside0.mk (show Kd.C (Kd.int .i64) v6 (some ⟨v5.heap.size + 1 + 1, 0, none⟩) 3 [2, 9, 4] from Kd.C_below x2_ hbb)
  have HB_ := Aside0.mk (below_step HB.out (below_step hb6 hbb))
  clear HB hbb hb6 codes_ m_ mm_ n_ nm_ x1_ pr_ x2_
  have HB := HB_; clear HB_
  clear x1 pr x2
  obtain ⟨bA, bc, rfl⟩ := Kd.R_slice bR
  have bl := Aside0.mk (show 3 ≤ bc from (Kd.R_reads' bR).2.1)
  have b := Aside0.mk (show Kd.C (Kd.int .i64) v6 (bA) 3 [1, 2, 1] from (Kd.R_reads' bR).2.2)
  clear bR
  go_wp2_with fail
  have hb7 : Below v6.heap.size v6 (v6.alloc (Obj.cells #[Value.int IntKind.i64 5, Value.int IntKind.i64 1, Value.int IntKind.i64 4, Value.int IntKind.i64 1, Value.slice bA 3 bc] 25)) := below_alloc (Below.refl _ _) _
  have codes_ : Kd.C (Kd.int .i64) (v6.alloc (Obj.cells #[Value.int IntKind.i64 5, Value.int IntKind.i64 1, Value.int IntKind.i64 4, Value.int IntKind.i64 1, Value.slice bA 3 bc] 25)) (some ⟨w.heap.size, 0, none⟩) 5 [1, 2, 3, 4, 5] := Kd.C_below codes.out hb7
  have m_ : Kd.C (Kd.int .i64) (v6.alloc (Obj.cells #[Value.int IntKind.i64 5, Value.int IntKind.i64 1, Value.int IntKind.i64 4, Value.int IntKind.i64 1, Value.slice bA 3 bc] 25)) (mA) 3 [1, 2, 1] := Kd.C_below m.out hb7
  have mm_ : (v6.alloc (Obj.cells #[Value.int IntKind.i64 5, Value.int IntKind.i64 1, Value.int IntKind.i64 4, Value.int IntKind.i64 1, Value.slice bA 3 bc] 25)).heap[v1.heap.size]? = some (Obj.cells #[Value.int IntKind.i64 0, Value.int IntKind.i64 1, Value.int IntKind.i64 4, Value.int IntKind.i64 1, Value.slice mA 3 mc] 25 (0, 0)) := blk_below mm.out hb7
  have n_ : Kd.C (Kd.int .i64) (v6.alloc (Obj.cells #[Value.int IntKind.i64 5, Value.int IntKind.i64 1, Value.int IntKind.i64 4, Value.int IntKind.i64 1, Value.slice bA 3 bc] 25)) (nA) 2 [1, 3] := Kd.C_below n.out hb7
  have nm_ : (v6.alloc (Obj.cells #[Value.int IntKind.i64 5, Value.int IntKind.i64 1, Value.int IntKind.i64 4, Value.int IntKind.i64 1, Value.slice bA 3 bc] 25)).heap[v2.heap.size]? = some (Obj.cells #[Value.int IntKind.i64 0, Value.int IntKind.i64 1, Value.int IntKind.i64 2, Value.int IntKind.i64 1, Value.slice nA 2 nc] 25 (0, 0)) := blk_below nm.out hb7
  have b_ : Kd.C (Kd.int .i64) (v6.alloc (Obj.cells #[Value.int IntKind.i64 5, Value.int IntKind.i64 1, Value.int IntKind.i64 4, Value.int IntKind.i64 1, Value.slice bA 3 bc] 25)) (bA) 3 [1, 2, 1] := Kd.C_below b.out hb7
  have bm0 := World.alloc_heap_new v6 (Obj.cells #[Value.int IntKind.i64 5, Value.int IntKind.i64 1, Value.int IntKind.i64 4, Value.int IntKind.i64 1, Value.slice bA 3 bc] 25)
  have bm_ : (v6.alloc (Obj.cells #[Value.int IntKind.i64 5, Value.int IntKind.i64 1, Value.int IntKind.i64 4, Value.int IntKind.i64 1, Value.slice bA 3 bc] 25)).heap[v6.heap.size]? = some (Obj.cells #[Value.int IntKind.i64 5, Value.int IntKind.i64 1, Value.int IntKind.i64 4, Value.int IntKind.i64 1, Value.slice bA 3 bc] 25 (0, 0)) := bm0
  clear bm0
  clear codes
  clear m
  clear mm
  clear n
  clear nm
  clear b
  refine (fingerprint_Cost.calls 100 none 0 [] none 0 [] 0 360 _ sane_nil (by decide) sane_nil (by decide) (by decide +kernel)).mono ?_
  rintro e v7 ⟨rfl, hbb⟩
  have codes := Aside0.mk (show Kd.C (Kd.int .i64) v7 (some ⟨w.heap.size, 0, none⟩) 5 [1, 2, 3, 4, 5] from Kd.C_below codes_ hbb)
  have m := Aside0.mk (show Kd.C (Kd.int .i64) v7 (mA) 3 [1, 2, 1] from Kd.C_below m_ hbb)
  have mm := Aside0.mk (show v7.heap[v1.heap.size]? = some (Obj.cells #[Value.int IntKind.i64 0, Value.int IntKind.i64 1, Value.int IntKind.i64 4, Value.int IntKind.i64 1, Value.slice mA 3 mc] 25 (0, 0)) from blk_below mm_ hbb)
  have n := Aside0.mk (show Kd.C (Kd.int .i64) v7 (nA) 2 [1, 3] from Kd.C_below n_ hbb)
  have nm := Aside0.mk (show v7.heap[v2.heap.size]? = some (Obj.cells #[Value.int IntKind.i64 0, Value.int IntKind.i64 1, Value.int IntKind.i64 2, Value.int IntKind.i64 1, Value.slice nA 2 nc] 25 (0, 0)) from blk_below nm_ hbb)
  have b := Aside0.mk (show Kd.C (Kd.int .i64) v7 (bA) 3 [1, 2, 1] from Kd.C_below b_ hbb)
  have bm := Aside0.mk (show v7.heap[v6.heap.size]? = some (Obj.cells #[Value.int IntKind.i64 5, Value.int IntKind.i64 1, Value.int IntKind.i64 4, Value.int IntKind.i64 1, Value.slice bA 3 bc] 25 (0, 0)) from blk_below bm_ hbb)
  have HB_ := Aside0.mk (below_step HB.out (below_step hb7 hbb))
  clear HB hbb hb7 codes_ m_ mm_ n_ nm_ b_ bm_
  have HB := HB_; clear HB_
  have q0 : v7.cell? ⟨v1.heap.size, 0, none⟩ = some (Value.int IntKind.i64 0) := (blk_cell mm.out 0).trans rfl
  have q1 : v7.cell? ⟨v1.heap.size, 1, none⟩ = some (Value.int IntKind.i64 1) := (blk_cell mm.out 1).trans rfl
  have q2 : v7.cell? ⟨v1.heap.size, 2, none⟩ = some (Value.int IntKind.i64 4) := (blk_cell mm.out 2).trans rfl
  have q3 : v7.cell? ⟨v1.heap.size, 3, none⟩ = some (Value.int IntKind.i64 1) := (blk_cell mm.out 3).trans rfl
  have q4 : v7.cell? ⟨v1.heap.size, 4, none⟩ = some (Value.slice mA 3 mc) := (blk_cell mm.out 4).trans rfl
  go_wp2_with fail
  clear q0 q1 q2 q3 q4
  have hb8 : Below v7.heap.size v7 (v7.alloc (Obj.cells #[Value.int IntKind.i64 1, Value.int IntKind.i64 2, Value.int IntKind.i64 1] 3)) := below_alloc (Below.refl _ _) _
  have codes_ : Kd.C (Kd.int .i64) (v7.alloc (Obj.cells #[Value.int IntKind.i64 1, Value.int IntKind.i64 2, Value.int IntKind.i64 1] 3)) (some ⟨w.heap.size, 0, none⟩) 5 [1, 2, 3, 4, 5] := Kd.C_below codes.out hb8
  have m_ : Kd.C (Kd.int .i64) (v7.alloc (Obj.cells #[Value.int IntKind.i64 1, Value.int IntKind.i64 2, Value.int IntKind.i64 1] 3)) (mA) 3 [1, 2, 1] := Kd.C_below m.out hb8
  have mm_ : (v7.alloc (Obj.cells #[Value.int IntKind.i64 1, Value.int IntKind.i64 2, Value.int IntKind.i64 1] 3)).heap[v1.heap.size]? = some (Obj.cells #[Value.int IntKind.i64 0, Value.int IntKind.i64 1, Value.int IntKind.i64 4, Value.int IntKind.i64 1, Value.slice mA 3 mc] 25 (0, 0)) := blk_below mm.out hb8
  have n_ : Kd.C (Kd.int .i64) (v7.alloc (Obj.cells #[Value.int IntKind.i64 1, Value.int IntKind.i64 2, Value.int IntKind.i64 1] 3)) (nA) 2 [1, 3] := Kd.C_below n.out hb8
  have nm_ : (v7.alloc (Obj.cells #[Value.int IntKind.i64 1, Value.int IntKind.i64 2, Value.int IntKind.i64 1] 3)).heap[v2.heap.size]? = some (Obj.cells #[Value.int IntKind.i64 0, Value.int IntKind.i64 1, Value.int IntKind.i64 2, Value.int IntKind.i64 1, Value.slice nA 2 nc] 25 (0, 0)) := blk_below nm.out hb8
  have b_ : Kd.C (Kd.int .i64) (v7.alloc (Obj.cells #[Value.int IntKind.i64 1, Value.int IntKind.i64 2, Value.int IntKind.i64 1] 3)) (bA) 3 [1, 2, 1] := Kd.C_below b.out hb8
  have bm_ : (v7.alloc (Obj.cells #[Value.int IntKind.i64 1, Value.int IntKind.i64 2, Value.int IntKind.i64 1] 3)).heap[v6.heap.size]? = some (Obj.cells #[Value.int IntKind.i64 5, Value.int IntKind.i64 1, Value.int IntKind.i64 4, Value.int IntKind.i64 1, Value.slice bA 3 bc] 25 (0, 0)) := blk_below bm.out hb8
  have x10 := World.alloc_heap_new v7 (Obj.cells #[Value.int IntKind.i64 1, Value.int IntKind.i64 2, Value.int IntKind.i64 1] 3)
  have x1_ : Kd.C (Kd.int .i64) (v7.alloc (Obj.cells #[Value.int IntKind.i64 1, Value.int IntKind.i64 2, Value.int IntKind.i64 1] 3)) (some ⟨v7.heap.size, 0, none⟩) 3 [1, 2, 1] := fp_row.C (r := [1, 2, 1]) x10 (by decide)
  clear x10
  clear codes
  clear m
  clear mm
  clear n
  clear nm
  clear b
  clear bm
  refine (aircheckref36_Same.calls 100 0 1 4 1 mA mc [1, 2, 1] 0 1 4 1 (some ⟨v7.heap.size, 0, none⟩) 3 [1, 2, 1] true _ m_ ml.out x1_ (by decide) (by decide +kernel)).mono ?_
  rintro e v8 ⟨rfl, hbb⟩
  have codes := Aside0.mk (show Kd.C (Kd.int .i64) v8 (some ⟨w.heap.size, 0, none⟩) 5 [1, 2, 3, 4, 5] from Kd.C_below codes_ hbb)
  have m := Aside0.mk (show Kd.C (Kd.int .i64) v8 (mA) 3 [1, 2, 1] from Kd.C_below m_ hbb)
  have mm := Aside0.mk (show v8.heap[v1.heap.size]? = some (Obj.cells #[Value.int IntKind.i64 0, Value.int IntKind.i64 1, Value.int IntKind.i64 4, Value.int IntKind.i64 1, Value.slice mA 3 mc] 25 (0, 0)) from blk_below mm_ hbb)
  have n := Aside0.mk (show Kd.C (Kd.int .i64) v8 (nA) 2 [1, 3] from Kd.C_below n_ hbb)
  have nm := Aside0.mk (show v8.heap[v2.heap.size]? = some (Obj.cells #[Value.int IntKind.i64 0, Value.int IntKind.i64 1, Value.int IntKind.i64 2, Value.int IntKind.i64 1, Value.slice nA 2 nc] 25 (0, 0)) from blk_below nm_ hbb)
  have b := Aside0.mk (show Kd.C (Kd.int .i64) v8 (bA) 3 [1, 2, 1] from Kd.C_below b_ hbb)
  have bm := Aside0.mk (show v8.heap[v6.heap.size]? = some (Obj.cells #[Value.int IntKind.i64 5, Value.int IntKind.i64 1, Value.int IntKind.i64 4, Value.int IntKind.i64 1, Value.slice bA 3 bc] 25 (0, 0)) from blk_below bm_ hbb)
  have x1 := Aside0.mk (show Kd.C (Kd.int .i64) v8 (some ⟨v7.heap.size, 0, none⟩) 3 [1, 2, 1] from Kd.C_below x1_ hbb)
  have HB_ := Aside0.mk (below_step HB.out (below_step hb8 hbb))
  clear HB hbb hb8 codes_ m_ mm_ n_ nm_ b_ bm_ x1_
  have HB := HB_; clear HB_
  clear x1
  have q0 : v8.cell? ⟨v2.heap.size, 0, none⟩ = some (Value.int IntKind.i64 0) := (blk_cell nm.out 0).trans rfl
  have q1 : v8.cell? ⟨v2.heap.size, 1, none⟩ = some (Value.int IntKind.i64 1) := (blk_cell nm.out 1).trans rfl
  have q2 : v8.cell? ⟨v2.heap.size, 2, none⟩ = some (Value.int IntKind.i64 2) := (blk_cell nm.out 2).trans rfl
  have q3 : v8.cell? ⟨v2.heap.size, 3, none⟩ = some (Value.int IntKind.i64 1) := (blk_cell nm.out 3).trans rfl
  have q4 : v8.cell? ⟨v2.heap.size, 4, none⟩ = some (Value.slice nA 2 nc) := (blk_cell nm.out 4).trans rfl
  go_wp2_with fail
  clear q0 q1 q2 q3 q4
  have hb9 : Below v8.heap.size v8 (v8.alloc (Obj.cells #[Value.int IntKind.i64 1, Value.int IntKind.i64 3] 3)) := below_alloc (Below.refl _ _) _
  have codes_ : Kd.C (Kd.int .i64) (v8.alloc (Obj.cells #[Value.int IntKind.i64 1, Value.int IntKind.i64 3] 3)) (some ⟨w.heap.size, 0, none⟩) 5 [1, 2, 3, 4, 5] := Kd.C_below codes.out hb9
  have m_ : Kd.C (Kd.int .i64) (v8.alloc (Obj.cells #[Value.int IntKind.i64 1, Value.int IntKind.i64 3] 3)) (mA) 3 [1, 2, 1] := Kd.C_below m.out hb9
  have mm_ : (v8.alloc (Obj.cells #[Value.int IntKind.i64 1, Value.int IntKind.i64 3] 3)).heap[v1.heap.size]? = some (Obj.cells #[Value.int IntKind.i64 0, Value.int IntKind.i64 1, Value.int IntKind.i64 4, Value.int IntKind.i64 1, Value.slice mA 3 mc] 25 (0, 0)) := blk_below mm.out hb9
  have n_ : Kd.C (Kd.int .i64) (v8.alloc (Obj.cells #[Value.int IntKind.i64 1, Value.int IntKind.i64 3] 3)) (nA) 2 [1, 3] := Kd.C_below n.out hb9
  have nm_ : (v8.alloc (Obj.cells #[Value.int IntKind.i64 1, Value.int IntKind.i64 3] 3)).heap[v2.heap.size]? = some (Obj.cells #[Value.int IntKind.i64 0, Value.int IntKind.i64 1, Value.int IntKind.i64 2, Value.int IntKind.i64 1, Value.slice nA 2 nc] 25 (0, 0)) := blk_below nm.out hb9
  have b_ : Kd.C (Kd.int .i64) (v8.alloc (Obj.cells #[Value.int IntKind.i64 1, Value.int IntKind.i64 3] 3)) (bA) 3 [1, 2, 1] := Kd.C_below b.out hb9
  have bm_ : (v8.alloc (Obj.cells #[Value.int IntKind.i64 1, Value.int IntKind.i64 3] 3)).heap[v6.heap.size]? = some (Obj.cells #[Value.int IntKind.i64 5, Value.int IntKind.i64 1, Value.int IntKind.i64 4, Value.int IntKind.i64 1, Value.slice bA 3 bc] 25 (0, 0)) := blk_below bm.out hb9
  have x10 := World.alloc_heap_new v8 (Obj.cells #[Value.int IntKind.i64 1, Value.int IntKind.i64 3] 3)
  have x1_ : Kd.C (Kd.int .i64) (v8.alloc (Obj.cells #[Value.int IntKind.i64 1, Value.int IntKind.i64 3] 3)) (some ⟨v8.heap.size, 0, none⟩) 2 [1, 3] := fp_row.C (r := [1, 3]) x10 (by decide)
  clear x10
  clear codes
  clear m
  clear mm
  clear n
  clear nm
  clear b
  clear bm
  refine (aircheckref36_Same.calls 100 0 1 2 1 nA nc [1, 3] 0 1 2 1 (some ⟨v8.heap.size, 0, none⟩) 2 [1, 3] true _ n_ nl.out x1_ (by decide) (by decide +kernel)).mono ?_
  rintro e v9 ⟨rfl, hbb⟩
  have codes := Aside0.mk (show Kd.C (Kd.int .i64) v9 (some ⟨w.heap.size, 0, none⟩) 5 [1, 2, 3, 4, 5] from Kd.C_below codes_ hbb)
  have m := Aside0.mk (show Kd.C (Kd.int .i64) v9 (mA) 3 [1, 2, 1] from Kd.C_below m_ hbb)
  have mm := Aside0.mk (show v9.heap[v1.heap.size]? = some (Obj.cells #[Value.int IntKind.i64 0, Value.int IntKind.i64 1, Value.int IntKind.i64 4, Value.int IntKind.i64 1, Value.slice mA 3 mc] 25 (0, 0)) from blk_below mm_ hbb)
  have n := Aside0.mk (show Kd.C (Kd.int .i64) v9 (nA) 2 [1, 3] from Kd.C_below n_ hbb)
  have nm := Aside0.mk (show v9.heap[v2.heap.size]? = some (Obj.cells #[Value.int IntKind.i64 0, Value.int IntKind.i64 1, Value.int IntKind.i64 2, Value.int IntKind.i64 1, Value.slice nA 2 nc] 25 (0, 0)) from blk_below nm_ hbb)
  have b := Aside0.mk (show Kd.C (Kd.int .i64) v9 (bA) 3 [1, 2, 1] from Kd.C_below b_ hbb)
  have bm := Aside0.mk (show v9.heap[v6.heap.size]? = some (Obj.cells #[Value.int IntKind.i64 5, Value.int IntKind.i64 1, Value.int IntKind.i64 4, Value.int IntKind.i64 1, Value.slice bA 3 bc] 25 (0, 0)) from blk_below bm_ hbb)
  have x1 := Aside0.mk (show Kd.C (Kd.int .i64) v9 (some ⟨v8.heap.size, 0, none⟩) 2 [1, 3] from Kd.C_below x1_ hbb)
  have HB_ := Aside0.mk (below_step HB.out (below_step hb9 hbb))
  clear HB hbb hb9 codes_ m_ mm_ n_ nm_ b_ bm_ x1_
  have HB := HB_; clear HB_
  clear x1
  clear nm n
  clear nl
  have q0 : v9.cell? ⟨v6.heap.size, 0, none⟩ = some (Value.int IntKind.i64 5) := (blk_cell bm.out 0).trans rfl
  have q1 : v9.cell? ⟨v6.heap.size, 1, none⟩ = some (Value.int IntKind.i64 1) := (blk_cell bm.out 1).trans rfl
  have q2 : v9.cell? ⟨v6.heap.size, 2, none⟩ = some (Value.int IntKind.i64 4) := (blk_cell bm.out 2).trans rfl
  have q3 : v9.cell? ⟨v6.heap.size, 3, none⟩ = some (Value.int IntKind.i64 1) := (blk_cell bm.out 3).trans rfl
  have q4 : v9.cell? ⟨v6.heap.size, 4, none⟩ = some (Value.slice bA 3 bc) := (blk_cell bm.out 4).trans rfl
  go_wp2_with fail
  clear q0 q1 q2 q3 q4
  have hb10 : Below v9.heap.size v9 (v9.alloc (Obj.cells #[Value.int IntKind.i64 1, Value.int IntKind.i64 2, Value.int IntKind.i64 1] 3)) := below_alloc (Below.refl _ _) _
  have codes_ : Kd.C (Kd.int .i64) (v9.alloc (Obj.cells #[Value.int IntKind.i64 1, Value.int IntKind.i64 2, Value.int IntKind.i64 1] 3)) (some ⟨w.heap.size, 0, none⟩) 5 [1, 2, 3, 4, 5] := Kd.C_below codes.out hb10
  have m_ : Kd.C (Kd.int .i64) (v9.alloc (Obj.cells #[Value.int IntKind.i64 1, Value.int IntKind.i64 2, Value.int IntKind.i64 1] 3)) (mA) 3 [1, 2, 1] := Kd.C_below m.out hb10
  have mm_ : (v9.alloc (Obj.cells #[Value.int IntKind.i64 1, Value.int IntKind.i64 2, Value.int IntKind.i64 1] 3)).heap[v1.heap.size]? = some (Obj.cells #[Value.int IntKind.i64 0, Value.int IntKind.i64 1, Value.int IntKind.i64 4, Value.int IntKind.i64 1, Value.slice mA 3 mc] 25 (0, 0)) := blk_below mm.out hb10
  have b_ : Kd.C (Kd.int .i64) (v9.alloc (Obj.cells #[Value.int IntKind.i64 1, Value.int IntKind.i64 2, Value.int IntKind.i64 1] 3)) (bA) 3 [1, 2, 1] := Kd.C_below b.out hb10
  have bm_ : (v9.alloc (Obj.cells #[Value.int IntKind.i64 1, Value.int IntKind.i64 2, Value.int IntKind.i64 1] 3)).heap[v6.heap.size]? = some (Obj.cells #[Value.int IntKind.i64 5, Value.int IntKind.i64 1, Value.int IntKind.i64 4, Value.int IntKind.i64 1, Value.slice bA 3 bc] 25 (0, 0)) := blk_below bm.out hb10
  have x10 := World.alloc_heap_new v9 (Obj.cells #[Value.int IntKind.i64 1, Value.int IntKind.i64 2, Value.int IntKind.i64 1] 3)
  have x1_ : Kd.C (Kd.int .i64) (v9.alloc (Obj.cells #[Value.int IntKind.i64 1, Value.int IntKind.i64 2, Value.int IntKind.i64 1] 3)) (some ⟨v9.heap.size, 0, none⟩) 3 [1, 2, 1] := fp_row.C (r := [1, 2, 1]) x10 (by decide)
  clear x10
  clear codes
  clear m
  clear mm
  clear b
  clear bm
  refine (aircheckref36_Same.calls 100 5 1 4 1 bA bc [1, 2, 1] 5 1 4 1 (some ⟨v9.heap.size, 0, none⟩) 3 [1, 2, 1] true _ b_ bl.out x1_ (by decide) (by decide +kernel)).mono ?_
  rintro e v10 ⟨rfl, hbb⟩
  have codes := Aside0.mk (show Kd.C (Kd.int .i64) v10 (some ⟨w.heap.size, 0, none⟩) 5 [1, 2, 3, 4, 5] from Kd.C_below codes_ hbb)
  have m := Aside0.mk (show Kd.C (Kd.int .i64) v10 (mA) 3 [1, 2, 1] from Kd.C_below m_ hbb)
  have mm := Aside0.mk (show v10.heap[v1.heap.size]? = some (Obj.cells #[Value.int IntKind.i64 0, Value.int IntKind.i64 1, Value.int IntKind.i64 4, Value.int IntKind.i64 1, Value.slice mA 3 mc] 25 (0, 0)) from blk_below mm_ hbb)
  have b := Aside0.mk (show Kd.C (Kd.int .i64) v10 (bA) 3 [1, 2, 1] from Kd.C_below b_ hbb)
  have bm := Aside0.mk (show v10.heap[v6.heap.size]? = some (Obj.cells #[Value.int IntKind.i64 5, Value.int IntKind.i64 1, Value.int IntKind.i64 4, Value.int IntKind.i64 1, Value.slice bA 3 bc] 25 (0, 0)) from blk_below bm_ hbb)
  have x1 := Aside0.mk (show Kd.C (Kd.int .i64) v10 (some ⟨v9.heap.size, 0, none⟩) 3 [1, 2, 1] from Kd.C_below x1_ hbb)
  have HB_ := Aside0.mk (below_step HB.out (below_step hb10 hbb))
  clear HB hbb hb10 codes_ m_ mm_ b_ bm_ x1_
  have HB := HB_; clear HB_
  clear x1
  clear bm b
  clear bl
  have q0 : (v10.alloc (Obj.cells #[Value.int IntKind.i64 2, Value.int IntKind.i64 9, Value.int IntKind.i64 4] 3)).cell? ⟨v1.heap.size, 0, none⟩ = some (Value.int IntKind.i64 0) := (blk_cell (blk_alloc mm.out (Obj.cells #[Value.int IntKind.i64 2, Value.int IntKind.i64 9, Value.int IntKind.i64 4] 3)) 0).trans rfl
  have q1 : (v10.alloc (Obj.cells #[Value.int IntKind.i64 2, Value.int IntKind.i64 9, Value.int IntKind.i64 4] 3)).cell? ⟨v1.heap.size, 1, none⟩ = some (Value.int IntKind.i64 1) := (blk_cell (blk_alloc mm.out (Obj.cells #[Value.int IntKind.i64 2, Value.int IntKind.i64 9, Value.int IntKind.i64 4] 3)) 1).trans rfl
  have q2 : (v10.alloc (Obj.cells #[Value.int IntKind.i64 2, Value.int IntKind.i64 9, Value.int IntKind.i64 4] 3)).cell? ⟨v1.heap.size, 2, none⟩ = some (Value.int IntKind.i64 4) := (blk_cell (blk_alloc mm.out (Obj.cells #[Value.int IntKind.i64 2, Value.int IntKind.i64 9, Value.int IntKind.i64 4] 3)) 2).trans rfl
  have q3 : (v10.alloc (Obj.cells #[Value.int IntKind.i64 2, Value.int IntKind.i64 9, Value.int IntKind.i64 4] 3)).cell? ⟨v1.heap.size, 3, none⟩ = some (Value.int IntKind.i64 1) := (blk_cell (blk_alloc mm.out (Obj.cells #[Value.int IntKind.i64 2, Value.int IntKind.i64 9, Value.int IntKind.i64 4] 3)) 3).trans rfl
  have q4 : (v10.alloc (Obj.cells #[Value.int IntKind.i64 2, Value.int IntKind.i64 9, Value.int IntKind.i64 4] 3)).cell? ⟨v1.heap.size, 4, none⟩ = some (Value.slice mA 3 mc) := (blk_cell (blk_alloc mm.out (Obj.cells #[Value.int IntKind.i64 2, Value.int IntKind.i64 9, Value.int IntKind.i64 4] 3)) 4).trans rfl
  go_wp2_with fail
  clear q0 q1 q2 q3 q4
  have hb11 : Below v10.heap.size v10 (v10.alloc (Obj.cells #[Value.int IntKind.i64 2, Value.int IntKind.i64 9, Value.int IntKind.i64 4] 3)) := below_alloc (Below.refl _ _) _
  have codes_ : Kd.C (Kd.int .i64) (v10.alloc (Obj.cells #[Value.int IntKind.i64 2, Value.int IntKind.i64 9, Value.int IntKind.i64 4] 3)) (some ⟨w.heap.size, 0, none⟩) 5 [1, 2, 3, 4, 5] := Kd.C_below codes.out hb11
  have m_ : Kd.C (Kd.int .i64) (v10.alloc (Obj.cells #[Value.int IntKind.i64 2, Value.int IntKind.i64 9, Value.int IntKind.i64 4] 3)) (mA) 3 [1, 2, 1] := Kd.C_below m.out hb11
  have mm_ : (v10.alloc (Obj.cells #[Value.int IntKind.i64 2, Value.int IntKind.i64 9, Value.int IntKind.i64 4] 3)).heap[v1.heap.size]? = some (Obj.cells #[Value.int IntKind.i64 0, Value.int IntKind.i64 1, Value.int IntKind.i64 4, Value.int IntKind.i64 1, Value.slice mA 3 mc] 25 (0, 0)) := blk_below mm.out hb11
  have x10 := World.alloc_heap_new v10 (Obj.cells #[Value.int IntKind.i64 2, Value.int IntKind.i64 9, Value.int IntKind.i64 4] 3)
  have x1_ : Kd.C (Kd.int .i64) (v10.alloc (Obj.cells #[Value.int IntKind.i64 2, Value.int IntKind.i64 9, Value.int IntKind.i64 4] 3)) (some ⟨v10.heap.size, 0, none⟩) 3 [2, 9, 4] := fp_row.C (r := [2, 9, 4]) x10 (by decide)
  clear x10
  clear codes
  clear m
  clear mm
  refine (fingerprint_Check.calls 100 _ (some ⟨v10.heap.size, 0, none⟩) 3 [2, 9, 4] _ (some ⟨w.heap.size, 0, none⟩) 5 [1, 2, 3, 4, 5] 0 1 4 1 mA mc [1, 2, 1] true _ (Kd.V_mk (xs := [2, 9, 4]) (by decide) (Kd.C_F (Kd.heap_int .i64) x1_)) (Kd.V_mk (xs := [1, 2, 3, 4, 5]) (by decide) (Kd.C_F (Kd.heap_int .i64) codes_)) m_ ml.out (by decide +kernel)).mono ?_
  rintro e v11 ⟨rfl, hbb⟩
  have codes := Aside0.mk (show Kd.C (Kd.int .i64) v11 (some ⟨w.heap.size, 0, none⟩) 5 [1, 2, 3, 4, 5] from Kd.C_below codes_ hbb)
  have m := Aside0.mk (show Kd.C (Kd.int .i64) v11 (mA) 3 [1, 2, 1] from Kd.C_below m_ hbb)
  have mm := Aside0.mk (show v11.heap[v1.heap.size]? = some (Obj.cells #[Value.int IntKind.i64 0, Value.int IntKind.i64 1, Value.int IntKind.i64 4, Value.int IntKind.i64 1, Value.slice mA 3 mc] 25 (0, 0)) from blk_below mm_ hbb)
  have x1 := Aside0.mk (show Kd.C (Kd.int .i64) v11 (some ⟨v10.heap.size, 0, none⟩) 3 [2, 9, 4] from Kd.C_below x1_ hbb)
  have HB_ := Aside0.mk (below_step HB.out (below_step hb11 hbb))
  clear HB hbb hb11 codes_ m_ mm_ x1_
  have HB := HB_; clear HB_
  clear x1
  have q0 : (v11.alloc (Obj.cells #[Value.int IntKind.i64 2, Value.int IntKind.i64 4] 3)).cell? ⟨v1.heap.size, 0, none⟩ = some (Value.int IntKind.i64 0) := (blk_cell (blk_alloc mm.out (Obj.cells #[Value.int IntKind.i64 2, Value.int IntKind.i64 4] 3)) 0).trans rfl
  have q1 : (v11.alloc (Obj.cells #[Value.int IntKind.i64 2, Value.int IntKind.i64 4] 3)).cell? ⟨v1.heap.size, 1, none⟩ = some (Value.int IntKind.i64 1) := (blk_cell (blk_alloc mm.out (Obj.cells #[Value.int IntKind.i64 2, Value.int IntKind.i64 4] 3)) 1).trans rfl
  have q2 : (v11.alloc (Obj.cells #[Value.int IntKind.i64 2, Value.int IntKind.i64 4] 3)).cell? ⟨v1.heap.size, 2, none⟩ = some (Value.int IntKind.i64 4) := (blk_cell (blk_alloc mm.out (Obj.cells #[Value.int IntKind.i64 2, Value.int IntKind.i64 4] 3)) 2).trans rfl
  have q3 : (v11.alloc (Obj.cells #[Value.int IntKind.i64 2, Value.int IntKind.i64 4] 3)).cell? ⟨v1.heap.size, 3, none⟩ = some (Value.int IntKind.i64 1) := (blk_cell (blk_alloc mm.out (Obj.cells #[Value.int IntKind.i64 2, Value.int IntKind.i64 4] 3)) 3).trans rfl
  have q4 : (v11.alloc (Obj.cells #[Value.int IntKind.i64 2, Value.int IntKind.i64 4] 3)).cell? ⟨v1.heap.size, 4, none⟩ = some (Value.slice mA 3 mc) := (blk_cell (blk_alloc mm.out (Obj.cells #[Value.int IntKind.i64 2, Value.int IntKind.i64 4] 3)) 4).trans rfl
  go_wp2_with fail
  clear q0 q1 q2 q3 q4
  have hb12 : Below v11.heap.size v11 (v11.alloc (Obj.cells #[Value.int IntKind.i64 2, Value.int IntKind.i64 4] 3)) := below_alloc (Below.refl _ _) _
  have codes_ : Kd.C (Kd.int .i64) (v11.alloc (Obj.cells #[Value.int IntKind.i64 2, Value.int IntKind.i64 4] 3)) (some ⟨w.heap.size, 0, none⟩) 5 [1, 2, 3, 4, 5] := Kd.C_below codes.out hb12
  have m_ : Kd.C (Kd.int .i64) (v11.alloc (Obj.cells #[Value.int IntKind.i64 2, Value.int IntKind.i64 4] 3)) (mA) 3 [1, 2, 1] := Kd.C_below m.out hb12
  have mm_ : (v11.alloc (Obj.cells #[Value.int IntKind.i64 2, Value.int IntKind.i64 4] 3)).heap[v1.heap.size]? = some (Obj.cells #[Value.int IntKind.i64 0, Value.int IntKind.i64 1, Value.int IntKind.i64 4, Value.int IntKind.i64 1, Value.slice mA 3 mc] 25 (0, 0)) := blk_below mm.out hb12
  have x10 := World.alloc_heap_new v11 (Obj.cells #[Value.int IntKind.i64 2, Value.int IntKind.i64 4] 3)
  have x1_ : Kd.C (Kd.int .i64) (v11.alloc (Obj.cells #[Value.int IntKind.i64 2, Value.int IntKind.i64 4] 3)) (some ⟨v11.heap.size, 0, none⟩) 2 [2, 4] := fp_row.C (r := [2, 4]) x10 (by decide)
  clear x10
  clear codes
  clear m
  clear mm
  refine (fingerprint_Check.calls 100 _ (some ⟨v11.heap.size, 0, none⟩) 2 [2, 4] _ (some ⟨w.heap.size, 0, none⟩) 5 [1, 2, 3, 4, 5] 0 1 4 1 mA mc [1, 2, 1] false _ (Kd.V_mk (xs := [2, 4]) (by decide) (Kd.C_F (Kd.heap_int .i64) x1_)) (Kd.V_mk (xs := [1, 2, 3, 4, 5]) (by decide) (Kd.C_F (Kd.heap_int .i64) codes_)) m_ ml.out (by decide +kernel)).mono ?_
  rintro e v12 ⟨rfl, hbb⟩
  have codes := Aside0.mk (show Kd.C (Kd.int .i64) v12 (some ⟨w.heap.size, 0, none⟩) 5 [1, 2, 3, 4, 5] from Kd.C_below codes_ hbb)
  have m := Aside0.mk (show Kd.C (Kd.int .i64) v12 (mA) 3 [1, 2, 1] from Kd.C_below m_ hbb)
  have mm := Aside0.mk (show v12.heap[v1.heap.size]? = some (Obj.cells #[Value.int IntKind.i64 0, Value.int IntKind.i64 1, Value.int IntKind.i64 4, Value.int IntKind.i64 1, Value.slice mA 3 mc] 25 (0, 0)) from blk_below mm_ hbb)
  have x1 := Aside0.mk (show Kd.C (Kd.int .i64) v12 (some ⟨v11.heap.size, 0, none⟩) 2 [2, 4] from Kd.C_below x1_ hbb)
  have HB_ := Aside0.mk (below_step HB.out (below_step hb12 hbb))
  clear HB hbb hb12 codes_ m_ mm_ x1_
  have HB := HB_; clear HB_
  clear x1
  go_wp2_with fail
  have hb13 : Below v12.heap.size v12 (v12.alloc (Obj.cells #[Value.int IntKind.i64 (-1)] 3)) := below_alloc (Below.refl _ _) _
  have codes_ : Kd.C (Kd.int .i64) (v12.alloc (Obj.cells #[Value.int IntKind.i64 (-1)] 3)) (some ⟨w.heap.size, 0, none⟩) 5 [1, 2, 3, 4, 5] := Kd.C_below codes.out hb13
  have m_ : Kd.C (Kd.int .i64) (v12.alloc (Obj.cells #[Value.int IntKind.i64 (-1)] 3)) (mA) 3 [1, 2, 1] := Kd.C_below m.out hb13
  have mm_ : (v12.alloc (Obj.cells #[Value.int IntKind.i64 (-1)] 3)).heap[v1.heap.size]? = some (Obj.cells #[Value.int IntKind.i64 0, Value.int IntKind.i64 1, Value.int IntKind.i64 4, Value.int IntKind.i64 1, Value.slice mA 3 mc] 25 (0, 0)) := blk_below mm.out hb13
  have x10 := World.alloc_heap_new v12 (Obj.cells #[Value.int IntKind.i64 (-1)] 3)
  have x1_ : Kd.C (Kd.int .i64) (v12.alloc (Obj.cells #[Value.int IntKind.i64 (-1)] 3)) (some ⟨v12.heap.size, 0, none⟩) 1 [-1] := fp_row.C (r := [-1]) x10 (by decide)
  clear x10
  clear codes
  clear m
  clear mm
  refine (fingerprint_Heard.calls (some ⟨v12.heap.size, 0, none⟩) 1 [-1] true _ x1_ (by decide) (by decide +kernel)).mono ?_
  rintro e v13 ⟨rfl, hbb⟩
  have codes := Aside0.mk (show Kd.C (Kd.int .i64) v13 (some ⟨w.heap.size, 0, none⟩) 5 [1, 2, 3, 4, 5] from Kd.C_below codes_ hbb)
  have m := Aside0.mk (show Kd.C (Kd.int .i64) v13 (mA) 3 [1, 2, 1] from Kd.C_below m_ hbb)
  have mm := Aside0.mk (show v13.heap[v1.heap.size]? = some (Obj.cells #[Value.int IntKind.i64 0, Value.int IntKind.i64 1, Value.int IntKind.i64 4, Value.int IntKind.i64 1, Value.slice mA 3 mc] 25 (0, 0)) from blk_below mm_ hbb)
  have x1 := Aside0.mk (show Kd.C (Kd.int .i64) v13 (some ⟨v12.heap.size, 0, none⟩) 1 [-1] from Kd.C_below x1_ hbb)
  have HB_ := Aside0.mk (below_step HB.out (below_step hb13 hbb))
  clear HB hbb hb13 codes_ m_ mm_ x1_
  have HB := HB_; clear HB_
  clear x1
  go_wp2_with fail
  have hb14 : Below v13.heap.size v13 (v13.alloc (Obj.cells #[Value.int IntKind.i64 256] 3)) := below_alloc (Below.refl _ _) _
  have codes_ : Kd.C (Kd.int .i64) (v13.alloc (Obj.cells #[Value.int IntKind.i64 256] 3)) (some ⟨w.heap.size, 0, none⟩) 5 [1, 2, 3, 4, 5] := Kd.C_below codes.out hb14
  have m_ : Kd.C (Kd.int .i64) (v13.alloc (Obj.cells #[Value.int IntKind.i64 256] 3)) (mA) 3 [1, 2, 1] := Kd.C_below m.out hb14
  have mm_ : (v13.alloc (Obj.cells #[Value.int IntKind.i64 256] 3)).heap[v1.heap.size]? = some (Obj.cells #[Value.int IntKind.i64 0, Value.int IntKind.i64 1, Value.int IntKind.i64 4, Value.int IntKind.i64 1, Value.slice mA 3 mc] 25 (0, 0)) := blk_below mm.out hb14
  have x10 := World.alloc_heap_new v13 (Obj.cells #[Value.int IntKind.i64 256] 3)
  have x1_ : Kd.C (Kd.int .i64) (v13.alloc (Obj.cells #[Value.int IntKind.i64 256] 3)) (some ⟨v13.heap.size, 0, none⟩) 1 [256] := fp_row.C (r := [256]) x10 (by decide)
  clear x10
  clear codes
  clear m
  clear mm
  refine (fingerprint_Heard.calls (some ⟨v13.heap.size, 0, none⟩) 1 [256] false _ x1_ (by decide) (by decide +kernel)).mono ?_
  rintro e v14 ⟨rfl, hbb⟩
  have codes := Aside0.mk (show Kd.C (Kd.int .i64) v14 (some ⟨w.heap.size, 0, none⟩) 5 [1, 2, 3, 4, 5] from Kd.C_below codes_ hbb)
  have m := Aside0.mk (show Kd.C (Kd.int .i64) v14 (mA) 3 [1, 2, 1] from Kd.C_below m_ hbb)
  have mm := Aside0.mk (show v14.heap[v1.heap.size]? = some (Obj.cells #[Value.int IntKind.i64 0, Value.int IntKind.i64 1, Value.int IntKind.i64 4, Value.int IntKind.i64 1, Value.slice mA 3 mc] 25 (0, 0)) from blk_below mm_ hbb)
  have x1 := Aside0.mk (show Kd.C (Kd.int .i64) v14 (some ⟨v13.heap.size, 0, none⟩) 1 [256] from Kd.C_below x1_ hbb)
  have HB_ := Aside0.mk (below_step HB.out (below_step hb14 hbb))
  clear HB hbb hb14 codes_ m_ mm_ x1_
  have HB := HB_; clear HB_
  clear x1
  go_wp2_with fail
  have hb15 : Below v14.heap.size v14 (v14.alloc (Obj.cells #[Value.int IntKind.i64 3, Value.slice (some ⟨w.heap.size, 0, none⟩) 5 5] 34)) := below_alloc (Below.refl _ _) _
  have codes_ : Kd.C (Kd.int .i64) (v14.alloc (Obj.cells #[Value.int IntKind.i64 3, Value.slice (some ⟨w.heap.size, 0, none⟩) 5 5] 34)) (some ⟨w.heap.size, 0, none⟩) 5 [1, 2, 3, 4, 5] := Kd.C_below codes.out hb15
  have m_ : Kd.C (Kd.int .i64) (v14.alloc (Obj.cells #[Value.int IntKind.i64 3, Value.slice (some ⟨w.heap.size, 0, none⟩) 5 5] 34)) (mA) 3 [1, 2, 1] := Kd.C_below m.out hb15
  have mm_ : (v14.alloc (Obj.cells #[Value.int IntKind.i64 3, Value.slice (some ⟨w.heap.size, 0, none⟩) 5 5] 34)).heap[v1.heap.size]? = some (Obj.cells #[Value.int IntKind.i64 0, Value.int IntKind.i64 1, Value.int IntKind.i64 4, Value.int IntKind.i64 1, Value.slice mA 3 mc] 25 (0, 0)) := blk_below mm.out hb15
  have pr0 := World.alloc_heap_new v14 (Obj.cells #[Value.int IntKind.i64 3, Value.slice (some ⟨w.heap.size, 0, none⟩) 5 5] 34)
  have pr_ : (v14.alloc (Obj.cells #[Value.int IntKind.i64 3, Value.slice (some ⟨w.heap.size, 0, none⟩) 5 5] 34)).heap[v14.heap.size]? = some (Obj.cells #[Value.int IntKind.i64 3, Value.slice (some ⟨w.heap.size, 0, none⟩) 5 5] 34 (0, 0)) := pr0
  clear pr0
  clear codes
  clear m
  clear mm
  refine (fingerprint_Valid.calls 100 (some ⟨v14.heap.size, 0, none⟩) 1 [⟨3, [1, 2, 3, 4, 5]⟩] true _ (sane_one (x := ⟨3, [1, 2, 3, 4, 5]⟩) pr_ (by decide) codes_) (by decide) (by decide +kernel)).mono ?_
  rintro e v15 ⟨rfl, hbb⟩
  have codes := Aside0.mk (show Kd.C (Kd.int .i64) v15 (some ⟨w.heap.size, 0, none⟩) 5 [1, 2, 3, 4, 5] from Kd.C_below codes_ hbb)
  have m := Aside0.mk (show Kd.C (Kd.int .i64) v15 (mA) 3 [1, 2, 1] from Kd.C_below m_ hbb)
  have mm := Aside0.mk (show v15.heap[v1.heap.size]? = some (Obj.cells #[Value.int IntKind.i64 0, Value.int IntKind.i64 1, Value.int IntKind.i64 4, Value.int IntKind.i64 1, Value.slice mA 3 mc] 25 (0, 0)) from blk_below mm_ hbb)
  have pr := Aside0.mk (show v15.heap[v14.heap.size]? = some (Obj.cells #[Value.int IntKind.i64 3, Value.slice (some ⟨w.heap.size, 0, none⟩) 5 5] 34 (0, 0)) from blk_below pr_ hbb)
  have HB_ := Aside0.mk (below_step HB.out (below_step hb15 hbb))
  clear HB hbb hb15 codes_ m_ mm_ pr_
  have HB := HB_; clear HB_
  clear pr
  go_wp2_with fail
  have hb16 : Below v15.heap.size v15 (v15.alloc (Obj.cells #[Value.int IntKind.i64 3, Value.slice none 0 0] 34)) := below_alloc (Below.refl _ _) _
  have codes_ : Kd.C (Kd.int .i64) (v15.alloc (Obj.cells #[Value.int IntKind.i64 3, Value.slice none 0 0] 34)) (some ⟨w.heap.size, 0, none⟩) 5 [1, 2, 3, 4, 5] := Kd.C_below codes.out hb16
  have m_ : Kd.C (Kd.int .i64) (v15.alloc (Obj.cells #[Value.int IntKind.i64 3, Value.slice none 0 0] 34)) (mA) 3 [1, 2, 1] := Kd.C_below m.out hb16
  have mm_ : (v15.alloc (Obj.cells #[Value.int IntKind.i64 3, Value.slice none 0 0] 34)).heap[v1.heap.size]? = some (Obj.cells #[Value.int IntKind.i64 0, Value.int IntKind.i64 1, Value.int IntKind.i64 4, Value.int IntKind.i64 1, Value.slice mA 3 mc] 25 (0, 0)) := blk_below mm.out hb16
  have pr0 := World.alloc_heap_new v15 (Obj.cells #[Value.int IntKind.i64 3, Value.slice none 0 0] 34)
  have pr_ : (v15.alloc (Obj.cells #[Value.int IntKind.i64 3, Value.slice none 0 0] 34)).heap[v15.heap.size]? = some (Obj.cells #[Value.int IntKind.i64 3, Value.slice none 0 0] 34 (0, 0)) := pr0
  clear pr0
  clear codes
  clear m
  clear mm
  refine (fingerprint_Valid.calls 100 (some ⟨v15.heap.size, 0, none⟩) 1 [⟨3, []⟩] false _ (sane_one (x := ⟨3, []⟩) pr_ (by decide) sane_nil) (by decide) (by decide +kernel)).mono ?_
  rintro e v16 ⟨rfl, hbb⟩
  have codes := Aside0.mk (show Kd.C (Kd.int .i64) v16 (some ⟨w.heap.size, 0, none⟩) 5 [1, 2, 3, 4, 5] from Kd.C_below codes_ hbb)
  have m := Aside0.mk (show Kd.C (Kd.int .i64) v16 (mA) 3 [1, 2, 1] from Kd.C_below m_ hbb)
  have mm := Aside0.mk (show v16.heap[v1.heap.size]? = some (Obj.cells #[Value.int IntKind.i64 0, Value.int IntKind.i64 1, Value.int IntKind.i64 4, Value.int IntKind.i64 1, Value.slice mA 3 mc] 25 (0, 0)) from blk_below mm_ hbb)
  have pr := Aside0.mk (show v16.heap[v15.heap.size]? = some (Obj.cells #[Value.int IntKind.i64 3, Value.slice none 0 0] 34 (0, 0)) from blk_below pr_ hbb)
  have HB_ := Aside0.mk (below_step HB.out (below_step hb16 hbb))
  clear HB hbb hb16 codes_ m_ mm_ pr_
  have HB := HB_; clear HB_
  go_wp2_with fail
  clear codes mm m
  go_ret
  exact ⟨rfl, HB.out⟩
theorem airchecklaw36_sane.calls (r : Bool) (w : World) (h : airchecklaw36_sane.f = some r) : Calls Try.prog 10 #[] w fun e w' => e = .returned (.bool r) ∧ Below w.heap.size w w' := by
  cases (Option.some.inj h : true = r)
  exact airchecklaw36_sane.calls0 w

end Go.Proofs.Ytgaepndbfpfniaa.PFB
