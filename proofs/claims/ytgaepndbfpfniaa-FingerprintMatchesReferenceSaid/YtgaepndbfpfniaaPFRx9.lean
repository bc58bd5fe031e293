-- PRINTED by print.py (a twelfth state) out of the translation. Not trusted: Lean checks it.
import Derived.Test.YtgaepndbfpfniaaPFRx0
import Derived.Test.YtgaepndbfpfniaaPFRx1
import Derived.Test.YtgaepndbfpfniaaPFRx4
import Derived.Test.YtgaepndbfpfniaaPFRx5
import Derived.Test.YtgaepndbfpfniaaPFRx8
import Derived.RangeFuncNested
import Derived.RangeFuncBound
import Derived.RangeFuncCalls
import Derived.RangeFuncLeaves
import Derived.RangeFuncBox
import Derived.Shelf.Abstract
import Derived.Shelf.RegionOpen
import Derived.OwnWalkIn
import Derived.TacticsInMore
import Derived.LoopNIn
import Derived.LoopIn
import Derived.OneCell
import Derived.BigQuiet
import Derived.Deep.RegionWith
import Derived.Deep.RegionHeld3
import Derived.Deep.RegionLaw
import Derived.IntWalk
import Derived.Lib.SliceRun
namespace Go.Proofs.Ytgaepndbfpfniaa.PFR
open Go.RowKit Go.Proofs.YtgaepndbfpfniaaW.PrintWords Go.Proofs.YtgaepndbfpfniaaW.PrintLast Go.Proofs.YtgaepndbfpfniaaW.PrintMore
attribute [local go_sem] max2_int min2_int max_two min_two max_three min_three max_four min_four   -- for this text's walks alone
set_option linter.unusedVariables false
set_option linter.unusedSimpArgs false

attribute [local go_sem] Oper.semAt_some
open Go.Shelf
-- given by hand: fp7
theorem fp_Each.less {K : Nat} {caps : Array Value} {m N N' g base : Nat} {J : (Nat → Prop) → List (List Int) → World → Prop} (h : fp_Each K caps m N g base J) (hn : N' ≤ N) : fp_Each K caps m N' g base J :=
 ⟨h.enters, h.keep, h.more, fun X pre r W a b c d e f i => h.call X pre r W a b c d e (by omega) i⟩
def fp_heardB (l : List Int) : Bool := decide ((l.length : Int) ≤ 60) && fp_codesB (-1) l
def fp_printB (l : List Int) : Bool := decide (1 ≤ (l.length : Int)) && decide ((l.length : Int) ≤ 60) && fp_codesB 0 l
def fingerprint_Table.f (l0 l1 : List Int) : Option (List (List Int) × Int) := some (if fp_heardB l0 = true ∧ fp_printB l1 = true then (fp_rowsP l0 l1 true, 0) else ([], 360))
theorem fp_heardB_len {l : List Int} (h : fp_heardB l = true) : l.length ≤ 60 := by
 unfold fp_heardB at h; simp at h; omega
theorem fp_printB_len {l : List Int} (h : fp_printB l = true) : 1 ≤ l.length ∧ l.length ≤ 60 := by
 unfold fp_printB at h; simp at h; omega
set_option maxRecDepth 100000 in
set_option maxHeartbeats 1000000 in
theorem fp_table_yes (A0 : Option Addr) (c0 : Nat) (l0 : List Int) (A1 : Option Addr) (c1 : Nat) (l1 : List Int) (w : World) (hr0 : Kd.C (Kd.int .i64) w A0 l0.length l0) (hr1 : Kd.C (Kd.int .i64) w A1 l1.length l1)
  (h0 : fp_heardB l0 = true) (h1 : fp_printB l1 = true) :
  Calls Try.prog 26 #[.slice A0 l0.length c0, .slice A1 l1.length c1] w fun e w' => ∃ v0_ : Value, e = .returned (.tuple #[v0_, .int .i64 0]) ∧ Kd.S (Kd.slice 3 (Kd.int .i64)) 22 w' w.heap.size (fun _ => True) v0_ (fp_rowsP l0 l1 true) ∧ Below w.heap.size w w' := by
 have hl0 := fp_heardB_len h0
 have hl1 := (fp_printB_len h1).2
 have H0 := Aside0.mk h0
 have H1 := Aside0.mk h1
 have HR0 := Aside0.mk hr0
 have HR1 := Aside0.mk hr1
 clear h0 h1 hr0 hr1
 go_enter Try.func26, Try.ntmps26
 go_wp2_with fail
 refine (fp_heard _ _ l0 _ HR0.out).mono ?_
 rintro e w1 ⟨rfl, hb1⟩
 rw [show (decide ((l0.length : Int) ≤ 60) && fp_codesB (-1) l0) = true from H0.out]
 have HB1 := Aside0.mk hb1
 clear hb1
 go_wp2_with fail
 refine (fp_isPrint _ _ l1 _ (Kd.C_below HR1.out HB1.out)).mono ?_
 rintro e w2 ⟨rfl, hb2⟩
 rw [show (decide (1 ≤ (l1.length : Int)) && decide ((l1.length : Int) ≤ 60) && fp_codesB 0 l1) = true from H1.out]
 have HB2 := Aside0.mk (below_step HB1.out hb2)
 clear hb2
 have hb3 : Below w.heap.size w (w2.alloc (.cells #[.slice none 0 0] 26)) := below_alloc HB2.out _
 have hrows := fp_rows 51 #[.pointer (some ⟨w2.heap.size, 0, none⟩)] (fp_tabJ w w2.heap.size []) A0 c0 l0 A1 c1 l1 true w (w2.alloc (.cells #[.slice none 0 0] 26))
  ((fp_tabEach w w2.heap.size _ (l1.length + 1) [] (by omega)).less (by omega))
  (fun X pre W hJ => Kd.C_below HR0.out hJ.1) (fun X pre W hJ => Kd.C_below HR1.out hJ.1) hb3.size
  ⟨hb3, HB2.out.size, fun h => h, ⟨_, World.alloc_heap_new _ _, Kd.S_nil _ _ _ _ _⟩, fun q hq => by cases hq⟩ (by omega) (by omega)
 have HROWS := Aside0.mk hrows
 have HB3 := Aside0.mk hb3
 clear hrows hb3
 go_wp2_with fail
 refine HROWS.out.mono ?_
 rintro e w3 ⟨rfl, X, hX, ⟨h1, h2, h3, ⟨u, h4, h5⟩, _⟩, hrow, hb⟩
 obtain ⟨A, c, rfl⟩ := Kd.S_slice h5
 have hc : w3.cell? ⟨w2.heap.size, 0, none⟩ = some _ := (blk_cell h4 0).trans rfl
 have HS := Aside0.mk (Kd.S_mono (ok' := fun _ => True) h5 (fun _ _ => trivial))
 have HB4 := Aside0.mk h1
 clear h1 h2 h3 h4 h5 hrow hb hX
 go_wp2
 go_ret2
 exact ⟨_, rfl, HS.out, HB4.out⟩
set_option maxRecDepth 100000 in
set_option maxHeartbeats 1000000 in
theorem fp_table_no (A0 : Option Addr) (c0 : Nat) (l0 : List Int) (A1 : Option Addr) (c1 : Nat) (l1 : List Int) (w : World) (hr0 : Kd.C (Kd.int .i64) w A0 l0.length l0) (hr1 : Kd.C (Kd.int .i64) w A1 l1.length l1)
  (h : ¬ (fp_heardB l0 = true ∧ fp_printB l1 = true)) :
  Calls Try.prog 26 #[.slice A0 l0.length c0, .slice A1 l1.length c1] w fun e w' => e = .returned (.tuple #[.slice none 0 0, .int .i64 360]) ∧ Below w.heap.size w w' := by
 have HR0 := Aside0.mk hr0
 have HR1 := Aside0.mk hr1
 clear hr0 hr1
 by_cases h0 : fp_heardB l0 = true
 ·have h1 : fp_printB l1 = false := by
   cases hh : fp_printB l1 with
   | false => rfl
   | true => exact absurd ⟨h0, hh⟩ h
  have H0 := Aside0.mk h0
  have H1 := Aside0.mk h1
  clear h h0 h1
  go_enter Try.func26, Try.ntmps26
  go_wp2_with fail
  refine (fp_heard _ _ l0 _ HR0.out).mono ?_
  rintro e w1 ⟨rfl, hb1⟩
  rw [show (decide ((l0.length : Int) ≤ 60) && fp_codesB (-1) l0) = true from H0.out]
  have HB1 := Aside0.mk hb1
  clear hb1
  go_wp2_with fail
  refine (fp_isPrint _ _ l1 _ (Kd.C_below HR1.out HB1.out)).mono ?_
  rintro e w2 ⟨rfl, hb2⟩
  rw [show (decide (1 ≤ (l1.length : Int)) && decide ((l1.length : Int) ≤ 60) && fp_codesB 0 l1) = false from H1.out]
  have HB2 := Aside0.mk (below_step HB1.out hb2)
  clear hb2
  go_wp2
  go_ret2
  exact ⟨rfl, HB2.out⟩
 ·have H0 := Aside0.mk (show fp_heardB l0 = false by simpa using h0)
  clear h h0
  go_enter Try.func26, Try.ntmps26
  go_wp2_with fail
  refine (fp_heard _ _ l0 _ HR0.out).mono ?_
  rintro e w1 ⟨rfl, hb1⟩
  rw [show (decide ((l0.length : Int) ≤ 60) && fp_codesB (-1) l0) = false from H0.out]
  have HB1 := Aside0.mk hb1
  clear hb1
  go_wp2
  go_ret2
  exact ⟨rfl, HB1.out⟩
theorem fingerprint_Table.calls (A0 : Option Addr) (c0 : Nat) (l0 : List Int) (A1 : Option Addr) (c1 : Nat) (l1 : List Int) (r1 : List (List Int)) (r2 : Int) (w : World) (hr0 : Kd.C (Kd.int .i64) w A0 l0.length l0) (hc0 : l0.length ≤ c0) (hr1 : Kd.C (Kd.int .i64) w A1 l1.length l1) (hc1 : l1.length ≤ c1) (h : fingerprint_Table.f l0 l1 = some (r1, r2)) :
  Calls Try.prog 26 #[.slice A0 l0.length c0, .slice A1 l1.length c1] w fun e w' => ∃ v0_ : Value, e = .returned (.tuple #[v0_, .int .i64 r2]) ∧ Kd.S (Kd.slice 3 (Kd.int .i64)) 22 w' w.heap.size (fun _ => True) v0_ r1 ∧ Below w.heap.size w w' := by
 unfold fingerprint_Table.f at h
 replace h := Option.some.inj h
 by_cases hc : fp_heardB l0 = true ∧ fp_printB l1 = true
 ·rw [if_pos hc] at h
  obtain ⟨rfl, rfl⟩ := Prod.mk.inj h
  exact fp_table_yes A0 c0 l0 A1 c1 l1 w hr0 hr1 hc.1 hc.2
 ·rw [if_neg hc] at h
  obtain ⟨rfl, rfl⟩ := Prod.mk.inj h
  refine (fp_table_no A0 c0 l0 A1 c1 l1 w hr0 hr1 hc).mono ?_
  rintro e w' ⟨rfl, hb⟩
  exact ⟨_, rfl, Kd.S_nil _ _ _ _ _, hb⟩
/-! backwards -/
def fp_rev (l : List Int) (k : Nat) : List Int := (List.range l.length).map (fun t => if t < k ∨ l.length - k ≤ t then rd l ((l.length - 1 - t : Nat) : Int) else rd l (t : Int))
theorem fp_rev_0 (l : List Int) : fp_rev l 0 = l := by
 apply List.ext_getElem (by simp [fp_rev])
 intro i h1 h2
 have : ¬ l.length ≤ i := by simp [fp_rev] at h1; omega
 simp [fp_rev, rd, this, h2]
theorem fp_rev_end {l : List Int} {k : Nat} (h : l.length ≤ 2 * k + 1) : fp_rev l k = l.reverse := by
 apply List.ext_getElem (by simp [fp_rev])
 intro i h1 h2
 have h3 : i < l.length := by simpa [fp_rev] using h1
 simp only [fp_rev, List.getElem_map, List.getElem_range, List.getElem_reverse]
 by_cases c : i < k ∨ l.length - k ≤ i
 ·rw [if_pos c]; simp [rd, show l.length - 1 - i < l.length by omega]
 ·rw [if_neg c]
  have : l.length - 1 - i = i := by omega
  simp [rd, h3, this]
theorem fp_rev_get {l : List Int} {k : Nat} (h : 2 * k + 1 < l.length) : rd (fp_rev l k) (k : Int) = rd l (k : Int) ∧ rd (fp_rev l k) ((l.length - 1 - k : Nat) : Int) = rd l ((l.length - 1 - k : Nat) : Int) := by
 constructor
 ·simp only [rd, fp_rev, Int.toNat_natCast, List.getD_eq_getElem?_getD, List.getElem?_map]
  rw [List.getElem?_range (by omega)]
  simp only [Option.map_some, Option.getD_some]
  rw [if_neg (by omega)]
 ·simp only [rd, fp_rev, Int.toNat_natCast, List.getD_eq_getElem?_getD, List.getElem?_map]
  rw [List.getElem?_range (by omega)]
  simp only [Option.map_some, Option.getD_some]
  rw [if_neg (by omega)]
theorem fp_rev_step {l : List Int} {k : Nat} (h : 2 * k + 1 < l.length) : ((fp_rev l k).set k (rd l ((l.length - 1 - k : Nat) : Int))).set (l.length - 1 - k) (rd l (k : Int)) = fp_rev l (k + 1) := by
 apply List.ext_getElem (by simp [fp_rev])
 intro i h1 h2
 have h3 : i < l.length := by simpa [fp_rev] using h2
 rw [List.getElem_set, List.getElem_set]
 simp only [fp_rev, List.getElem_map, List.getElem_range]
 by_cases c : l.length - 1 - k = i
 ·rw [if_pos c, if_pos (by omega)]
  have : l.length - 1 - i = k := by omega
  rw [this]
 ·rw [if_neg c]
  by_cases d : k = i
  ·rw [if_pos d, if_pos (by omega), d]
  ·rw [if_neg d]
   by_cases e : i < k ∨ l.length - k ≤ i
   ·rw [if_pos e, if_pos (by omega)]
   ·rw [if_neg e, if_neg (by omega)]

end Go.Proofs.Ytgaepndbfpfniaa.PFR
