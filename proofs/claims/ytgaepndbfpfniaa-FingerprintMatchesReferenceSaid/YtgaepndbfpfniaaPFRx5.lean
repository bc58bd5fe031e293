-- PRINTED by print.py (a twelfth state) out of the translation. Not trusted: Lean checks it.
import Derived.Test.YtgaepndbfpfniaaPFRx0
import Derived.Test.YtgaepndbfpfniaaPFRx4
import Derived.RangeFuncNested
import Derived.RangeFuncBound
import Derived.RangeFuncCalls
import Derived.RangeFuncLeaves
import Derived.RangeFuncBox
import Derived.Shelf.Abstract
import Derived.Shelf.RegionOpen
import Derived.OwnWalkIn
import Derived.TacticsInMore
import Derived.LoopNIn
import Derived.LoopIn
import Derived.OneCell
import Derived.BigQuiet
import Derived.Deep.RegionWith
import Derived.Deep.RegionHeld3
import Derived.Deep.RegionLaw
import Derived.IntWalk
import Derived.Lib.SliceRun
namespace Go.Proofs.Ytgaepndbfpfniaa.PFR
open Go.RowKit Go.Proofs.YtgaepndbfpfniaaW.PrintWords Go.Proofs.YtgaepndbfpfniaaW.PrintLast Go.Proofs.YtgaepndbfpfniaaW.PrintMore
attribute [local go_sem] max2_int min2_int max_two min_two max_three min_three max_four min_four   -- for this text's walks alone
set_option linter.unusedVariables false
set_option linter.unusedSimpArgs false

attribute [local go_sem] Oper.semAt_some
open Go.Shelf
-- given by hand: fp4
theorem fp_made (W : World) (m : Nat) (hm : m ≤ 100000) : fp_row (W.alloc (.cells (madeCells #[.int .i64 0] m) 3)) W.heap.size (List.replicate m 0) :=
 fp_row.of_own (own_made W 0 3 .i64 m (Nat.zero_le _) (by omega))
set_option maxRecDepth 100000 in
set_option maxHeartbeats 2000000 in
theorem fp_rows (K : Nat) (caps : Array Value) (J : (Nat → Prop) → List (List Int) → World → Prop) (A : Option Addr) (ca : Nat) (a : List Int) (B : Option Addr) (cb : Nat) (b : List Int) (free : Bool) (w0 w : World)
  (hE : fp_Each K caps (b.length + 1) (a.length + 1) w.heap.size w0.heap.size J)
  (hA : ∀ X pre W, J X pre W → Kd.C (Kd.int .i64) W A a.length a) (hB : ∀ X pre W, J X pre W → Kd.C (Kd.int .i64) W B b.length b)
  (hb : w0.heap.size ≤ w.heap.size) (h0 : J (fun _ => False) [] w) (hla : a.length ≤ 1000) (hlb : b.length ≤ 1000) :
  Calls Try.prog 50 #[.slice A a.length ca, .slice B b.length cb, .bool free, .func (.func K) #[] caps] w fun e w' => e = .returned (.tuple #[]) ∧
   ∃ X, X w.heap.size ∧ J X (fp_rowsP a b free) w' ∧ fp_row w' w.heap.size (fp_lastP a b free) ∧ Below w0.heap.size w w' := by
 have HE := Aside0.mk hE
 have hen := hE.enters
 have HA := Aside0.mk hA
 have HB := Aside0.mk hB
 have HJ0 := Aside0.mk h0
 obtain ⟨m, hm⟩ : ∃ m, b.length + 1 = m := ⟨_, rfl⟩
 have e1 : ((b.length : Int) + 1) = (m : Int) := by omega
 have hm1 : m ≤ 1001 := by omega
 have HM := Aside0.mk hm
 have mk := print_make (P := Try.prog) 22 3 .i64 8 Try.underlying22 info3 (by decide) m (by omega)
 have eb : IntKind.i64.wrap ((b.length : Int) + 1) = (m : Int) := by rw [e1]; exact IntWalk.i64_in _ (by omega)
 clear hE hA hB h0 hm e1
 go_enter Try.func50, Try.ntmps50
 go_wp2
 obtain ⟨W1, hW1⟩ : ∃ W1, w.alloc (Obj.cells (madeCells #[Value.int IntKind.i64 0] m) 3) = W1 := ⟨_, rfl⟩
 have hr1 : fp_row W1 w.heap.size (fp_fill free m 0) := by rw [← hW1, fp_fill_0]; exact fp_made w m (by omega)
 have hs1 : W1.heap.size = w.heap.size + 1 := by rw [← hW1]; simp
 have hj1 : J (fun k => False ∨ k = w.heap.size) [] W1 := by
  rw [← hW1]
  exact HE.out.keep _ _ w _ (HE.out.more _ _ _ _ HJ0.out (Nat.le_refl _)) ((Below.refl _ _).alloc hb _) (fun k hk _ => Below.heap_alloc w _ k hk)
 have hb1 : Below w0.heap.size w W1 := by rw [← hW1]; exact (Below.refl _ _).alloc hb _
 rw [hW1]
 have HS1 := Aside0.mk hs1
 have HB1 := Aside0.mk hb1
 have HJ1 := Aside0.mk hj1
 have HW1 := Aside0.mk hW1
 have HR1 := Aside0.mk hr1
 clear hW1 hj1 hs1 hb1 hr1
 go_loopw [22] (fun i wr => ∃ k : Nat, k ≤ m ∧ i = .int .i64 k ∧ Aside0 (fp_row wr w.heap.size (fp_fill free m k)) ∧ Aside0 (Below w0.heap.size w wr) ∧ Aside0 (J (fun k => False ∨ k = w.heap.size) [] wr) ∧ Aside0 (wr.heap.size = w.heap.size + 1)) (fun i _ => m - (intOf i).toNat)
 case atStart => exact ⟨0, Nat.zero_le _, rfl, HR1, HB1, HJ1, HS1⟩
 case round =>
  obtain ⟨k, hk, rfl, hrk, hbk, hjk, hsk⟩ := hrel
  by_cases hlt : k < m
  ·have hk1 : (k : Int) < m := by omega
   have hk2 : (0 : Int) ≤ k := by omega
   cases free with
   | true =>
    go_wp2
    go_roundw
    case rel => exact ⟨k + 1, by omega, by go_num, hrk, hbk, hjk, hsk⟩
    case measure => simp [intOf]; omega
   | false =>
    have hc := hrk.out.cell (i := k) (by rw [fp_fill_length]; exact hlt)
    have hf := blk_frozen hrk.out k
    go_wp2
    go_roundw
    case rel => exact ⟨k + 1, by omega, by go_num, ⟨by have := hrk.out.set k (k : Int); rwa [fp_fill_no hlt] at this⟩, ⟨hbk.out.setCell (p := ⟨w.heap.size, k, none⟩) hb _⟩, ⟨HE.out.keep _ _ _ _ hjk.out ((Below.refl _ _).setCell (p := ⟨w.heap.size, k, none⟩) hb _) (fun j _ hj => Below.heap_setCell _ _ _ _ (fun e => hj (.inr e)))⟩, ⟨by have := hsk.out; simp; omega⟩⟩
    case measure => simp [intOf]; omega
  ·obtain rfl : k = m := by omega
   have hrr : fp_row wr w.heap.size (fp_row0 free b.length) := by have := hrk.out; rw [← HM.out, fp_fill_all] at this; exact this
   have HRR := Aside0.mk hrr
   clear hrr hrk hlt hk
   go_wp2_with fail
   have hcall := HE.out.call (fun k => False ∨ k = w.heap.size) [] (fp_row0 free b.length) wr hjk.out (by rintro j (h | rfl); exact h.elim; exact HRR.out.lt) (.inr rfl) HRR.out (by rw [fp_row0_length]) (by simp) (by have := hsk.out; omega)
   rw [HM.out] at hcall
   have HCALL := Aside0.mk hcall
   clear hcall
   refine HCALL.out.mono ?_
   rintro e w2 ⟨rfl, hj2, hb2, hk2⟩
   have hm2 : k + 1 ≤ 1002 := by omega
   go_wp2
   obtain ⟨W3, hW3⟩ : ∃ W3, w2.alloc (Obj.cells (madeCells #[Value.int IntKind.i64 0] k) 3) = W3 := ⟨_, rfl⟩
   have hg2 : w.heap.size < w2.heap.size := by have := hb2.size; have := HRR.out.lt; omega
   have hrow3 : fp_row W3 w.heap.size (fp_rowI a b free 0) := by
    rw [← hW3]
    exact (HRR.out.at (hk2 _ (.inr rfl))).at (Below.heap_alloc w2 _ _ hg2)
   have hold3 : fp_row W3 w2.heap.size (List.replicate k 0) := by rw [← hW3]; exact fp_made w2 k (by omega)
   have hj3 : J (fun j => (False ∨ j = w.heap.size) ∨ j = w2.heap.size) (fp_preI a b free 0) W3 := by
    rw [← hW3]
    exact HE.out.keep _ _ w2 _ (HE.out.more _ _ _ _ hj2 (Nat.le_refl _)) ((Below.refl _ _).alloc (by omega) _) (fun k hk _ => Below.heap_alloc w2 _ k hk)
   have hb3 : Below w0.heap.size w W3 := by rw [← hW3]; exact (hbk.out.trans hb2).alloc (by omega) _
   rw [hW3]
   obtain ⟨g, hg⟩ : ∃ g, w.heap.size = g := ⟨_, rfl⟩
   obtain ⟨h, hh⟩ : ∃ h, w2.heap.size = h := ⟨_, rfl⟩
   rw [hg] at hrow3 hj3 hg2 HE hb ⊢
   rw [hh] at hold3 hj3 hg2 ⊢
   have hmb := HM.out
   have hgh : g ≠ h := by omega
   have hbh : w0.heap.size ≤ h := by omega
   have hsm : w.heap.size ≤ W3.heap.size := hb3.size
   have HROW := Aside0.mk hrow3
   have HOLD := Aside0.mk hold3
   have HJ3 := Aside0.mk hj3
   have HB3 := Aside0.mk hb3
   have HH := Aside0.mk hh
   have HGG := Aside0.mk hg
   clear hW3 hj2 hb2 hk2 hrow3 hold3 hj3 hb3 hh hg HRR hjk hbk hsk HJ1 HB1 HR1 HS1 HW1
   go_loopw [40] (fun p wr => ∃ i : Nat, i ≤ a.length ∧ p = .int .i64 i ∧ Aside0 (fp_row wr g (fp_rowI a b free i)) ∧ Aside0 (∃ old : List Int, old.length = k ∧ fp_row wr h old) ∧ Aside0 (J (fun j => (False ∨ j = g) ∨ j = h) (fp_preI a b free i) wr) ∧ Aside0 (Below w0.heap.size w wr)) (fun p _ => a.length - (intOf p).toNat)
   case atStart => exact ⟨0, Nat.zero_le _, rfl, HROW, ⟨_, by simp, HOLD.out⟩, HJ3, HB3⟩
   case round =>
    clear HROW HOLD HJ3 HB3
    obtain ⟨i, hi, rfl, ⟨hri⟩, ⟨old, hol, hoi⟩, ⟨hji⟩, ⟨hbi⟩⟩ := hrel
    by_cases hlt : i < a.length
    ·have hi1 : (i : Int) < a.length := by omega
     have hi2 : (0 : Int) ≤ i := by omega
     obtain ⟨ada, rfl, hxa⟩ := Kd.at_int (HA.out _ _ _ hji) (i : Int) hi2 hi1
     obtain ⟨x, hx⟩ : ∃ x, rd a ↑i = x := ⟨_, rfl⟩
     rw [hx, Int.toNat_natCast] at hxa
     have HX := Aside0.mk hx
     have HRI := Aside0.mk hri
     have HOI := Aside0.mk hoi
     have HJI := Aside0.mk hji
     have HBI := Aside0.mk hbi
     have HOL := Aside0.mk hol
     have hlI : (fp_rowI a b free i).length = b.length + 1 := fp_rowI_length a b free i
     obtain ⟨r, hr⟩ : ∃ r, fp_rowI a b free i = r := ⟨_, rfl⟩
     rw [hr] at hlI HRI
     have HR := Aside0.mk hr
     have HLI := Aside0.mk hlI
     clear hx hri hoi hji hbi hol hr hlI
     have hbase : w0.heap.size ≤ wr.heap.size := by have := HBI.out.size; have := HGG.out; omega
     go_wp2_with ((with_reducible refine gate_dst (N := 46) rfl ?_); refine Kd.R_copy (enc := fun x : Int => Value.int .i64 x) (h1 := fun _ => rfl) 0 (w0 := w) w0.heap.size rfl (.tmp 44) (.tmp 45) 22 22 3 rfl Try.underlying22 info3s (.slice (some ⟨h, 0, none⟩) k k) old r (some ⟨g, 0, none⟩) k k (fun j => j = h) rfl rfl (HOI.out.Rn (fun j => j = h) HOL.out hbh rfl (by omega)) (HRI.out.Cn (by rw [HLI.out, hmb]) (by omega)) HBI.out hbase ?_; intro w4 hR4 hB4 hG4; rw [fp_copied (by rw [HLI.out, hmb]) HOL.out] at hR4; have HOI4 := Aside0.mk (fp_row.of_R hR4 (by rw [HLI.out, hmb])); have HG4 := Aside0.mk hG4; have HB4 := Aside0.mk hB4; have HRI4 := Aside0.mk (HRI.out.at (hG4.block g HRI.out.lt (fun e => hgh (Option.some.inj e)))); clear hR4 hB4 hG4; have c0 : w4.cell? ⟨g, 0, none⟩ = some (.int .i64 (rd r 0)) := HRI4.out.cell (i := 0) (by rw [HLI.out]; omega); have f0 := blk_frozen HRI4.out 0; have hk0 : 0 < k := by omega)
     have hlr := HLI.out
     have hkeep4 : ∀ j, j < wr.heap.size → j ≠ h → w4.heap[j]? = wr.heap[j]? := fun j hj hne => HG4.out.block j hj (fun e => hne (Option.some.inj e))
     have hbel4 : Below w0.heap.size wr w4 := (Below.refl _ _).grown HG4.out hbase (fun j e => by have e' : h = j := Option.some.inj e; omega)
     obtain ⟨W5, hW5⟩ : ∃ W5, w4.setCell ⟨g, 0, none⟩ (Value.int IntKind.i64 (wrap64 (rd r 0 + 1))) = W5 := ⟨_, rfl⟩
     have hrow5 : fp_row W5 g (fp_mix (fp_next x b r) r 1) := by rw [← hW5, ← fp_first hlr]; exact HRI4.out.set 0 _
     have hold5 : fp_row W5 h r := by rw [← hW5]; exact HOI4.out.far (p := ⟨g, 0, none⟩) (by simpa using hgh.symm) _
     have hbel5 : Below w0.heap.size wr W5 := by rw [← hW5]; exact hbel4.setCell (p := ⟨g, 0, none⟩) hb _
     have hj5 : J (fun j => (False ∨ j = g) ∨ j = h) (fp_preI a b free i) W5 := by
      refine HE.out.keep _ _ _ _ HJI.out hbel5 (fun j hj hn => ?_)
      rw [← hW5, Below.heap_setCell _ _ _ _ (show j ≠ g from fun e => hn (.inl (.inr e)))]
      exact hkeep4 j hj (fun e => hn (.inr e))
     have hb5 : Below w0.heap.size w W5 := HBI.out.trans hbel5
     rw [hW5]
     have HROW5 := Aside0.mk hrow5
     have HOLD5 := Aside0.mk hold5
     have HJ5 := Aside0.mk hj5
     have HB5 := Aside0.mk hb5
     clear hW5 hrow5 hold5 hbel5 hj5 hb5 hkeep4 hbel4 hxa c0 f0 HRI4 HOI4 HG4 HB4 HRI HOI HJI HBI hlr hbase
     go_loopw [54] (fun p wq => ∃ j : Nat, j ≤ b.length ∧ p = .int .i64 j ∧ Aside0 (fp_row wq g (fp_mix (fp_next x b r) r (j + 1))) ∧ Aside0 (fp_row wq h r) ∧ Aside0 (J (fun j => (False ∨ j = g) ∨ j = h) (fp_preI a b free i) wq) ∧ Aside0 (Below w0.heap.size w wq)) (fun p _ => b.length - (intOf p).toNat)
     case atStart => exact ⟨0, Nat.zero_le _, rfl, HROW5, HOLD5, HJ5, HB5⟩
     case round =>
      clear HROW5 HOLD5 HJ5 HB5
      obtain ⟨j, hj, rfl, HRJ, HOJ, HJJ, HBJ⟩ := hrel
      by_cases hjl : j < b.length
      ·have hj1 : (j : Int) < b.length := by omega
       have hj2 : (0 : Int) ≤ j := by omega
       have hj3 : (j : Int) < k := by omega
       have hj4 : (j : Int) + 1 < k := by omega
       have hj5 : (0 : Int) ≤ (j : Int) + 1 := by omega
       have ej : IntKind.i64.wrap ((j : Int) + 1) = (j : Int) + 1 := IntWalk.i64_in _ (by omega)
       have en : ((j : Int) + 1).toNat = j + 1 := by omega
       have et : ((j : Int)).toNat = j := rfl
       obtain ⟨adb, rfl, hxb⟩ := Kd.at_int (HB.out _ _ _ HJJ.out) (j : Int) hj2 hj1
       obtain ⟨y, hy⟩ : ∃ y, rd b ↑j = y := ⟨_, rfl⟩
       rw [hy, Int.toNat_natCast] at hxb
       have hlr := HLI.out
       have hstep := fp_step (x := x) hlr hjl
       have hml := fp_mix_len (x := x) hlr (j + 1)
       have hcd := HOJ.out.cell (i := j) (by omega)
       have hcu := HOJ.out.cell (i := j + 1) (by omega)
       have hcl := HRJ.out.cell (i := j) (by omega)
       rw [fp_mix_rd hlr (by omega)] at hcl
       have hcs := HRJ.out.cell (i := j + 1) (by omega)
       have hfs := blk_frozen HRJ.out (j + 1)
       rw [hy] at hstep
       obtain ⟨d, hd⟩ : ∃ d, rd r ↑j = d := ⟨_, rfl⟩
       obtain ⟨u, hu⟩ : ∃ u, rd r ((j + 1 : Nat) : Int) = u := ⟨_, rfl⟩
       obtain ⟨l, hll⟩ : ∃ l, rd (fp_next x b r) ↑j = l := ⟨_, rfl⟩
       rw [hd] at hcd hstep
       rw [hu] at hcu hstep
       rw [hll] at hcl hstep
       have HST := Aside0.mk hstep
       clear hd hu hll hy hstep hml hlr
       have hrow6 := HRJ.out.set (j + 1) (fp_new x y d u l)
       rw [HST.out] at hrow6
       have hold6 := HOJ.out.far (p := ⟨g, j + 1, none⟩) (show h ≠ g from hgh.symm) (.int .i64 (fp_new x y d u l))
       have hj6 := HE.out.keep _ _ _ _ HJJ.out (below_drew ((Below.refl w0.heap.size wr).setCell (p := ⟨g, j + 1, none⟩) hb (.int .i64 (fp_new x y d u l)))) (fun q _ hq => Below.heap_setCell _ _ _ _ (fun e => hq (.inl (.inr e))))
       have hb6 := below_drew (HBJ.out.setCell (p := ⟨g, j + 1, none⟩) hb (.int .i64 (fp_new x y d u l)))
       have HROW6 := Aside0.mk hrow6
       have HOLD6 := Aside0.mk hold6
       have HJ6 := Aside0.mk hj6
       have HB6 := Aside0.mk hb6
       clear hrow6 hold6 hj6 hb6
       by_cases hxy : x = y
       ·have t0 : (x != y) = false := by simp [hxy]
        have HXY := Aside0.mk hxy
        clear hxy
        go_wp2
        go_region
        rw [show (if wrap64 (l + 1) < if wrap64 (u + 1) < d then wrap64 (u + 1) else d then wrap64 (l + 1) else if wrap64 (u + 1) < d then wrap64 (u + 1) else d) = fp_new x y d u l by unfold fp_new mn; rw [if_pos HXY.out]]
        go_wp2
        go_roundw
        case rel => exact ⟨j + 1, by omega, by go_num, HROW6, HOLD6, HJ6, HB6⟩
        case measure => simp [intOf]; omega
       ·have t0 : (x != y) = true := by simp [hxy]
        have HXY := Aside0.mk hxy
        clear hxy
        go_wp2
        go_region
        rw [show (if wrap64 (l + 1) < if wrap64 (u + 1) < wrap64 (d + 1) then wrap64 (u + 1) else wrap64 (d + 1) then wrap64 (l + 1) else if wrap64 (u + 1) < wrap64 (d + 1) then wrap64 (u + 1) else wrap64 (d + 1)) = fp_new x y d u l by unfold fp_new mn; rw [if_neg HXY.out]]
        go_wp2
        go_roundw
        case rel => exact ⟨j + 1, by omega, by go_num, HROW6, HOLD6, HJ6, HB6⟩
        case measure => simp [intOf]; omega
      ·obtain rfl : j = b.length := by omega
       have hnew : fp_row wr g (fp_rowI a b free (i + 1)) := by
        rw [fp_rowI_succ b free hlt, HX.out, HR.out, ← fp_mix_end HLI.out]
        exact HRJ.out
       have hcall := HE.out.call _ _ (fp_rowI a b free (i + 1)) wr HJJ.out (by
        rintro q ((hq | rfl) | rfl)
        ·exact hq.elim
        ·exact hnew.lt
        ·exact HOJ.out.lt) (.inl (.inr rfl)) hnew (fp_rowI_length a b free _) (by rw [fp_preI_length a b free (by omega)]; omega) (by have := HBJ.out.size; have := HGG.out; omega)
       rw [HM.out, ← fp_preI_succ b free hlt] at hcall
       have HNEW := Aside0.mk hnew
       have HCALL := Aside0.mk hcall
       clear hcall hnew
       go_wp2_with fail
       refine HCALL.out.mono ?_
       rintro e w7 ⟨rfl, hj7, hb7, hk7⟩
       have HJ7 := Aside0.mk hj7
       have HB7 := Aside0.mk (HBJ.out.trans hb7)
       have HN7 := Aside0.mk (HNEW.out.at (hk7 g (.inl (.inr rfl))))
       have HO7 := Aside0.mk (HOJ.out.at (hk7 h (.inr rfl)))
       clear hj7 hb7 hk7
       go_wp2
       go_roundw
       case rel => exact ⟨i + 1, by omega, by go_num, HN7, ⟨_, by rw [HLI.out, hmb], HO7.out⟩, HJ7, HB7⟩
       case measure => simp [intOf]; omega
    ·obtain rfl : i = a.length := by omega
     have HF := Aside0.mk (⟨hri, hji, hbi⟩ : fp_row wr g (fp_rowI a b free a.length) ∧ J (fun j => (False ∨ j = g) ∨ j = h) (fp_preI a b free a.length) wr ∧ Below w0.heap.size w wr)
     clear hri hji hbi hoi hol
     go_wp2
     go_end0
     refine ⟨rfl, _, ?_, by rw [← fp_all.2]; exact HF.out.2.1, ?_, HF.out.2.2⟩
     ·exact .inl (.inr HGG.out)
     ·rw [HGG.out, ← fp_all.1]; exact HF.out.1

end Go.Proofs.Ytgaepndbfpfniaa.PFR
