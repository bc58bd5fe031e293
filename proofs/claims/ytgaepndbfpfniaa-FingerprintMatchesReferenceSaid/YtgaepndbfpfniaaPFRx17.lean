-- PRINTED by print.py (a twelfth state) out of the translation. Not trusted: Lean checks it.
import Derived.Test.YtgaepndbfpfniaaPFRx0
import Derived.Test.YtgaepndbfpfniaaPFRx1
import Derived.Test.YtgaepndbfpfniaaPFRx3
import Derived.Test.YtgaepndbfpfniaaPFRx16
import Derived.RangeFuncNested
import Derived.RangeFuncBound
import Derived.RangeFuncCalls
import Derived.RangeFuncLeaves
import Derived.RangeFuncBox
import Derived.Shelf.Abstract
import Derived.Shelf.RegionOpen
import Derived.OwnWalkIn
import Derived.TacticsInMore
import Derived.LoopNIn
import Derived.LoopIn
import Derived.OneCell
import Derived.BigQuiet
import Derived.Deep.RegionWith
import Derived.Deep.RegionHeld3
import Derived.Deep.RegionLaw
import Derived.IntWalk
import Derived.Lib.SliceRun
import Derived.Deep.RegionLawGrows
namespace Go.Proofs.Ytgaepndbfpfniaa.PFR
open Go.RowKit Go.Proofs.YtgaepndbfpfniaaW.PrintWords Go.Proofs.YtgaepndbfpfniaaW.PrintLast Go.Proofs.YtgaepndbfpfniaaW.PrintMore
attribute [local go_sem] max2_int min2_int max_two min_two max_three min_three max_four min_four   -- for this text's walks alone
set_option linter.unusedVariables false
set_option linter.unusedSimpArgs false

attribute [local go_sem] Oper.semAt_some
open Go.Shelf
-- given by hand: bd2
def fingerprint_Bound.f (k : Nat) (l0 l1 : List Int) (l2 : List (List Int)) : Option (Int × Bool) :=
 if l0.length ≤ 1000 ∧ l1.length ≤ 1000 then (fingerprint_Heard.f l0).bind fun v => if v = true then (fingerprint_isPrint.f l1).bind fun u => if u = true then if l2.length = l0.length + 1 then if bd_ok l0 l1 l2 then (slices_Min_int_int.f (rd_L1 l2 (l0.length : Int))).bind fun z => some (z, true) else some (0, false) else some (0, false) else some (0, false) else some (0, false) else none
theorem bd_range {h c : List Int} {t : List (List Int)} {x : Int} (hr : bd_row h c t x) {y : Int} (h0 : 0 ≤ y) (h1 : y < (c.length : Int) + 1) : -1000 ≤ rd (rd_L1 t x) y ∧ rd (rd_L1 t x) y ≤ 1000 := by
 have := hr.2 y.toNat (by omega)
 rw [Int.toNat_of_nonneg h0] at this
 unfold bd_bad bd_v at this
 omega
set_option maxRecDepth 100000 in
set_option maxHeartbeats 8000000 in
theorem fingerprint_Bound.calls (k : Nat) (A0 : Option Addr) (c0 : Nat) (l0 : List Int) (A1 : Option Addr) (c1 : Nat) (l1 : List Int) (A2 : Option Addr) (c2 : Nat) (l2 : List (List Int)) (r1 : Int) (r2 : Bool) (w : World) (hr0 : Kd.C (Kd.int .i64) w A0 l0.length l0) (hc0 : l0.length ≤ c0) (hr1 : Kd.C (Kd.int .i64) w A1 l1.length l1) (hc1 : l1.length ≤ c1) (hr2 : Kd.C (Kd.slice 3 (Kd.int .i64)) w A2 l2.length l2) (hc2 : l2.length ≤ c2) (h : fingerprint_Bound.f k l0 l1 l2 = some (r1, r2)) :
  Calls Try.prog 31 #[.slice A0 l0.length c0, .slice A1 l1.length c1, .slice A2 l2.length c2] w fun e w' => e = .returned (.tuple #[.int .i64 r1, .bool r2]) ∧ Below w.heap.size w w' := by
 unfold fingerprint_Bound.f at h
 split at h
 next hl =>
  obtain ⟨hl0, hl1⟩ := hl
  obtain ⟨v, hv, h⟩ := Option.bind_eq_some_iff.1 h
  have HR0 := Aside0.mk hr0
  have HC0 := Aside0.mk hc0
  have HR1 := Aside0.mk hr1
  have HC1 := Aside0.mk hc1
  have HR2 := Aside0.mk hr2
  have HC2 := Aside0.mk hc2
  have A3 := Aside0.mk hv
  have hw0 : IntKind.i64.wrap ((l0.length : Int) + 1) = (l0.length : Int) + 1 := by rw [i64_w]; exact bd_wrap ⟨by omega, by omega⟩
  have hw1 : IntKind.i64.wrap ((l1.length : Int) + 1) = (l1.length : Int) + 1 := by rw [i64_w]; exact bd_wrap ⟨by omega, by omega⟩
  have HL1 := Aside0.mk hl1
  have HL0 := Aside0.mk hl0
  have HH := Aside0.mk h
  clear hr0 hc0 hr1 hc1 hr2 hc2 hv hl1 hl0 h
  go_enter Try.func31, Try.ntmps31
  go_wp2_with (fail)
  refine (fingerprint_Heard.calls _ _ l0 v _ HR0.out HC0.out A3.out).mono ?_
  rintro e wa ⟨rfl, hb⟩
  have HB1 := Aside0.mk hb
  have h := HH.out
  clear HH hb
  cases v with
  | false =>
   obtain ⟨rfl, rfl⟩ := Prod.mk.inj (Option.some.inj ((if_neg (by decide)).symm.trans h))
   clear h
   go_wp2
   go_ret2
   exact ⟨rfl, HB1.out⟩
  | true =>
   rw [if_pos rfl] at h
   obtain ⟨u, hu, h⟩ := Option.bind_eq_some_iff.1 h
   have A4 := Aside0.mk hu
   have HH := Aside0.mk h
   clear hu h
   go_wp2_with (fail)
   refine (fingerprint_isPrint.calls _ _ l1 u _ (Kd.C_below HR1.out HB1.out) HC1.out A4.out).mono ?_
   rintro e wb ⟨rfl, hb⟩
   have HB2 := Aside0.mk (below_step HB1.out hb)
   have h := HH.out
   clear HH hb HB1
   cases u with
   | false =>
    obtain ⟨rfl, rfl⟩ := Prod.mk.inj (Option.some.inj ((if_neg (by decide)).symm.trans h))
    clear h
    go_wp2
    go_ret2
    exact ⟨rfl, HB2.out⟩
   | true =>
    rw [if_pos rfl] at h
    by_cases hlen : l2.length = l0.length + 1
    ·have dl : ((l2.length : Int) != (l0.length : Int) + 1) = false := by rw [bne_eq_false_iff_eq]; omega
     rw [if_pos hlen] at h
     have HH := Aside0.mk h
     have HL := Aside0.mk hlen
     clear h hlen
     go_wp2
     go_loopw [31] (fun p wr => ∃ x : Int, p = .int .i64 x ∧ Aside0 (0 ≤ x ∧ x ≤ (l2.length : Int)) ∧ Aside0 (∀ i : Nat, (i : Int) < x → bd_row l0 l1 l2 (i : Int)) ∧ Aside0 (Below w.heap.size w wr)) (fun p _ => l2.length - (intOf p).toNat)
     case atStart => exact ⟨0, rfl, ⟨by omega, by omega⟩, ⟨fun i hi => absurd hi (by omega)⟩, HB2⟩
     case round =>
      obtain ⟨x, rfl, HX, HI, HB⟩ := hrel
      clear HB2 dl
      have hx0 := HX.out.1
      by_cases hx1 : x < (l2.length : Int)
      ·by_cases x0 : x = 0
       ·subst x0
        have hx0 : (0 : Int) ≤ 0 := Int.le_refl 0
        have hx2 : 0 < l2.length := by omega
        have wq : IntKind.i64.wrap (0 + 1) = 0 + 1 := by rw [i64_w]; exact bd_wrap ⟨by omega, by have := HL.out; have := HL0.out; omega⟩
        obtain ⟨ad2, Ar, cr, e2, hcell, hle, hrow⟩ := at_L1 HR2.out (0 : Int) hx0 hx1
        subst e2
        have hcw := (HB.out.cell (World.block_lt_of_cell? w _ hcell)).trans hcell
        rw [show ((0 : Int)).toNat = 0 from rfl, Addr.add_zero'] at hcw
        have HROW := Aside0.mk hrow
        clear hle hrow hcell
        by_cases hrl : (rd_L1 l2 0).length = l1.length + 1
        ·have dr : (((rd_L1 l2 0).length : Int) != (l1.length : Int) + 1) = false := by rw [bne_eq_false_iff_eq]; omega
         have HRL := Aside0.mk hrl
         clear hrl
         go_wp2
         go_loopw [44] (fun p wr => ∃ y : Int, p = .int .i64 y ∧ Aside0 (0 ≤ y ∧ y ≤ (l1.length : Int) + 1) ∧ Aside0 (∀ j : Nat, (j : Int) < y → ¬ bd_bad l0 l1 l2 0 (j : Int)) ∧ Aside0 (Below w.heap.size w wr)) (fun p _ => l1.length + 1 - (intOf p).toNat)
         case atStart => exact ⟨0, rfl, ⟨by omega, by omega⟩, ⟨fun i hi => absurd hi (by omega)⟩, HB⟩
         case round =>
          clear hcw HB dr
          obtain ⟨y, rfl, HY, HJ, HB⟩ := hrel
          have hy0 := HY.out.1
          by_cases hy1 : y < ((rd_L1 l2 0).length : Int)
          ·have hB : bd_bad l0 l1 l2 0 y ↔ bd_bad l0 l1 l2 0 y := Iff.rfl
           conv at hB => rhs; unfold bd_bad bd_v
           obtain ⟨ad, rfl, hv⟩ := Kd.at_int HROW.out y hy0 hy1
           replace hv := (HB.out.cell (World.block_lt_of_cell? w _ hv)).trans hv
           have HY2 := Aside0.mk (show y < (l1.length : Int) + 1 by have := HRL.out; omega)
           have wy1 : IntKind.i64.wrap (y + 1) = y + 1 := by rw [i64_w]; exact bd_wrap ⟨by omega, by have := HY2.out; have := HL1.out; omega⟩
           obtain ⟨v, ev⟩ : ∃ v, rd (rd_L1 l2 0) y = v := ⟨_, rfl⟩
           rw [ev] at hB hv
           clear ev
           by_cases y0 : y = 0
           ·have dy1 : decide (0 < y) = false := decide_eq_false (by omega)
            have HY0 := Aside0.mk y0
            have HM := Aside0.mk True.intro
            clear y0
            by_cases b1 : v < -1000
            ·have db1 : decide (v < -1000) = true := decide_eq_true b1
             obtain ⟨rfl, rfl⟩ := bd_failc HH.out hx0 hx1 hy0 HY2.out (hB.2 (by have := HM.out; have := HY0.out; omega))
             clear hB
             go_wp2
             repeat (go_quiet (fail); try go_wp2)
             go_ret2
             exact ⟨rfl, zW HB.out⟩
            ·have db1 : decide (v < -1000) = false := decide_eq_false b1
             by_cases b2 : 0 < v
             ·have db2 : decide (0 < v) = true := decide_eq_true b2
              obtain ⟨rfl, rfl⟩ := bd_failc HH.out hx0 hx1 hy0 HY2.out (hB.2 (by have := HM.out; have := HY0.out; omega))
              clear hB
              go_wp2
              repeat (go_quiet (fail); try go_wp2)
              go_ret2
              exact ⟨rfl, zW HB.out⟩
             ·have db2 : decide (0 < v) = false := decide_eq_false b2
              have HN := Aside0.mk (fun hb => by have := hB.1 hb; have := HM.out; have := HY0.out; omega : ¬ bd_bad l0 l1 l2 0 y)
              clear hB
              go_wp2
              repeat (go_quiet (fail); try go_wp2)
              go_roundw
              case rel => exact ⟨y + 1, by go_num, ⟨by omega, by have := HY2.out; omega⟩, ⟨fun j hj => by
               by_cases hjy : (j : Int) = y
               ·rw [hjy]; exact HN.out
               ·exact HJ.out j (by omega)⟩, ⟨zW HB.out⟩⟩
              case measure => simp [intOf]; have := HY2.out; omega
           ·skip
            have dy1 : decide (0 < y) = true := decide_eq_true (by omega)
            have HY0 := Aside0.mk y0
            have wy : IntKind.i64.wrap (y - 1) = y - 1 := by rw [i64_w]; exact bd_wrap ⟨by omega, by have := HY2.out; have := HL1.out; omega⟩
            obtain ⟨jy, hjy⟩ : ∃ j, y - 1 = j := ⟨_, rfl⟩
            rw [hjy] at hB wy
            have jy0 : (0 : Int) ≤ jy := by omega
            have jy1 : jy < ((rd_L1 l2 0).length : Int) := by omega
            have jy2 : jy < (l1.length : Int) + 1 := by have := HY2.out; omega
            have HJY2 := Aside0.mk jy2
            obtain ⟨ad', ea', hlc⟩ := Kd.at_int HROW.out jy jy0 jy1
            cases ea'
            replace hlc := (HB.out.cell (World.block_lt_of_cell? w _ hlc)).trans hlc
            obtain ⟨l, el⟩ : ∃ v, rd (rd_L1 l2 0) jy = v := ⟨_, rfl⟩
            rw [el] at hB hlc
            obtain ⟨l_1, el1⟩ : ∃ v, wrap64 (l + 1) = v := ⟨_, rfl⟩
            have wl := (i64_w (l + 1)).trans el1
            rw [el1] at hB
            clear el el1 y0 jy2
            obtain ⟨m1, em1⟩ : ∃ m : Int, (if l_1 < 0 then l_1 else 0) = m := ⟨_, rfl⟩
            have HM := Aside0.mk (show m1 ≤ 0 ∧ m1 ≤ l_1 ∧ (m1 = 0 ∨ m1 = l_1) by rw [← em1]; split <;> omega)
            by_cases b1 : v < -1000
            ·have db1 : decide (v < -1000) = true := decide_eq_true b1
             obtain ⟨rfl, rfl⟩ := bd_failc HH.out hx0 hx1 hy0 HY2.out (hB.2 (by have := HM.out; have := HY0.out; omega))
             clear hB
             go_wp2
             repeat (go_quiet (fail); try go_wp2)
             go_ret2
             exact ⟨rfl, zW HB.out⟩
            ·have db1 : decide (v < -1000) = false := decide_eq_false b1
             by_cases b2 : m1 < v
             ·have db2 : decide (m1 < v) = true := decide_eq_true b2
              obtain ⟨rfl, rfl⟩ := bd_failc HH.out hx0 hx1 hy0 HY2.out (hB.2 (by have := HM.out; have := HY0.out; omega))
              clear hB
              go_wp2
              repeat (go_quiet (fail); try go_wp2)
              go_ret2
              exact ⟨rfl, zW HB.out⟩
             ·have db2 : decide (m1 < v) = false := decide_eq_false b2
              have HN := Aside0.mk (fun hb => by have := hB.1 hb; have := HM.out; have := HY0.out; omega : ¬ bd_bad l0 l1 l2 0 y)
              clear hB
              go_wp2
              repeat (go_quiet (fail); try go_wp2)
              go_roundw
              case rel => exact ⟨y + 1, by go_num, ⟨by omega, by have := HY2.out; omega⟩, ⟨fun j hj => by
               by_cases hjy : (j : Int) = y
               ·rw [hjy]; exact HN.out
               ·exact HJ.out j (by omega)⟩, ⟨zW HB.out⟩⟩
              case measure => simp [intOf]; have := HY2.out; omega
          ·have HRW := Aside0.mk (show bd_row l0 l1 l2 0 from ⟨HRL.out, fun j hj => HJ.out j (by have := HRL.out; omega)⟩)
           have dy : decide (y < ((rd_L1 l2 0).length : Int)) = false := decide_eq_false hy1
           go_wp2
           go_roundw
           case rel => exact ⟨0 + 1, by go_num, ⟨by omega, by omega⟩, ⟨fun i hi => by
            by_cases hix : (i : Int) = 0
            ·rw [hix]; exact HRW.out
            ·exact HI.out i (by omega)⟩, HB⟩
           case measure => simp [intOf]; omega
        ·have dr : (((rd_L1 l2 0).length : Int) != (l1.length : Int) + 1) = true := bne_iff_ne.2 (by omega)
         obtain ⟨rfl, rfl⟩ := bd_fail HH.out hx0 hx1 (fun hr => hrl hr.1)
         clear hrl
         go_wp2
         go_ret2
         exact ⟨rfl, HB.out⟩
       ·skip
        have dx0 : (x == 0) = false := beq_eq_false_iff_ne.2 x0
        have hxp : 0 < x := by omega
        have dx1 : decide (0 < x) = true := decide_eq_true hxp
        have wx : IntKind.i64.wrap (x - 1) = x - 1 := by rw [i64_w]; exact bd_wrap ⟨by omega, by have := HL.out; have := HL0.out; omega⟩
        have HXP := Aside0.mk hxp
        clear x0 hxp
        have wq : IntKind.i64.wrap (x + 1) = x + 1 := by rw [i64_w]; exact bd_wrap ⟨by omega, by have := HL.out; have := HL0.out; omega⟩
        obtain ⟨ad2, Ar, cr, e2, hcell, hle, hrow⟩ := at_L1 HR2.out (x : Int) hx0 hx1
        subst e2
        have hcw := (HB.out.cell (World.block_lt_of_cell? w _ hcell)).trans hcell
        have hxi : x - 1 < (l2.length : Int) := by omega
        have hxj : (0 : Int) ≤ x - 1 := by have := HXP.out; omega
        have HROW := Aside0.mk hrow
        clear hle hrow hcell
        by_cases hrl : (rd_L1 l2 x).length = l1.length + 1
        ·have dr : (((rd_L1 l2 x).length : Int) != (l1.length : Int) + 1) = false := by rw [bne_eq_false_iff_eq]; omega
         have HRL := Aside0.mk hrl
         clear hrl
         go_wp2
         go_loopw [44] (fun p wr => ∃ y : Int, p = .int .i64 y ∧ Aside0 (0 ≤ y ∧ y ≤ (l1.length : Int) + 1) ∧ Aside0 (∀ j : Nat, (j : Int) < y → ¬ bd_bad l0 l1 l2 x (j : Int)) ∧ Aside0 (Below w.heap.size w wr)) (fun p _ => l1.length + 1 - (intOf p).toNat)
         case atStart => exact ⟨0, rfl, ⟨by omega, by omega⟩, ⟨fun i hi => absurd hi (by omega)⟩, HB⟩
         case round =>
          clear hcw HB dr
          obtain ⟨y, rfl, HY, HJ, HB⟩ := hrel
          have hy0 := HY.out.1
          by_cases hy1 : y < ((rd_L1 l2 x).length : Int)
          ·have hB : bd_bad l0 l1 l2 x y ↔ bd_bad l0 l1 l2 x y := Iff.rfl
           conv at hB => rhs; unfold bd_bad bd_v
           obtain ⟨ad, rfl, hv⟩ := Kd.at_int HROW.out y hy0 hy1
           replace hv := (HB.out.cell (World.block_lt_of_cell? w _ hv)).trans hv
           have HY2 := Aside0.mk (show y < (l1.length : Int) + 1 by have := HRL.out; omega)
           have wy1 : IntKind.i64.wrap (y + 1) = y + 1 := by rw [i64_w]; exact bd_wrap ⟨by omega, by have := HY2.out; have := HL1.out; omega⟩
           obtain ⟨v, ev⟩ : ∃ v, rd (rd_L1 l2 x) y = v := ⟨_, rfl⟩
           rw [ev] at hB hv
           clear ev
           obtain ⟨jx, hjx⟩ : ∃ j, x - 1 = j := ⟨_, rfl⟩
           have jx0 : (0 : Int) ≤ jx := by omega
           have jx1 : jx < (l2.length : Int) := by omega
           rw [hjx] at hB wx
           have HU := Aside0.mk (show bd_row l0 l1 l2 jx by have := HI.out jx.toNat (by omega); rwa [Int.toNat_of_nonneg jx0] at this)
           obtain ⟨ad3, Au, cu, e3, hcu, hleu, hrowu⟩ := at_L1 HR2.out jx jx0 jx1
           cases e3
           replace hcu := (HB.out.cell (World.block_lt_of_cell? w _ hcu)).trans hcu
           have yu : y < ((rd_L1 l2 jx).length : Int) := by have := HY2.out; have := HU.out.1; omega
           obtain ⟨au, rfl, huc⟩ := Kd.at_int hrowu y hy0 yu
           replace huc := (HB.out.cell (World.block_lt_of_cell? w _ huc)).trans huc
           obtain ⟨u, eu⟩ : ∃ v, rd (rd_L1 l2 jx) y = v := ⟨_, rfl⟩
           rw [eu] at hB huc
           obtain ⟨u_1, eu1⟩ : ∃ v, wrap64 (u + 1) = v := ⟨_, rfl⟩
           have wu := (i64_w (u + 1)).trans eu1
           rw [eu1] at hB
           have HRU := Aside0.mk hrowu
           clear eu eu1 hleu hrowu
           obtain ⟨m0, em0⟩ : ∃ m : Int, (if u_1 < 1000 then u_1 else 1000) = m := ⟨_, rfl⟩
           have HM0 := Aside0.mk (show m0 ≤ 1000 ∧ m0 ≤ u_1 ∧ (m0 = 1000 ∨ m0 = u_1) by rw [← em0]; split <;> omega)
           by_cases y0 : y = 0
           ·have dy1 : decide (0 < y) = false := decide_eq_false (by omega)
            have HY0 := Aside0.mk y0
            have HM := HM0
            clear y0
            by_cases b1 : v < -1000
            ·have db1 : decide (v < -1000) = true := decide_eq_true b1
             obtain ⟨rfl, rfl⟩ := bd_failc HH.out hx0 hx1 hy0 HY2.out (hB.2 (by have := HM.out; have := HY0.out; have := HXP.out; omega))
             clear hB
             go_wp2
             repeat (go_quiet (fail); try go_wp2)
             go_ret2
             exact ⟨rfl, zW HB.out⟩
            ·have db1 : decide (v < -1000) = false := decide_eq_false b1
             by_cases b2 : m0 < v
             ·have db2 : decide (m0 < v) = true := decide_eq_true b2
              obtain ⟨rfl, rfl⟩ := bd_failc HH.out hx0 hx1 hy0 HY2.out (hB.2 (by have := HM.out; have := HY0.out; have := HXP.out; omega))
              clear hB
              go_wp2
              repeat (go_quiet (fail); try go_wp2)
              go_ret2
              exact ⟨rfl, zW HB.out⟩
             ·have db2 : decide (m0 < v) = false := decide_eq_false b2
              have HN := Aside0.mk (fun hb => by have := hB.1 hb; have := HM.out; have := HY0.out; have := HXP.out; omega : ¬ bd_bad l0 l1 l2 x y)
              clear hB
              go_wp2
              repeat (go_quiet (fail); try go_wp2)
              go_roundw
              case rel => exact ⟨y + 1, by go_num, ⟨by omega, by have := HY2.out; omega⟩, ⟨fun j hj => by
               by_cases hjy : (j : Int) = y
               ·rw [hjy]; exact HN.out
               ·exact HJ.out j (by omega)⟩, ⟨zW HB.out⟩⟩
              case measure => simp [intOf]; have := HY2.out; omega
           ·skip
            have dy1 : decide (0 < y) = true := decide_eq_true (by omega)
            have HY0 := Aside0.mk y0
            have wy : IntKind.i64.wrap (y - 1) = y - 1 := by rw [i64_w]; exact bd_wrap ⟨by omega, by have := HY2.out; have := HL1.out; omega⟩
            obtain ⟨jy, hjy⟩ : ∃ j, y - 1 = j := ⟨_, rfl⟩
            rw [hjy] at hB wy
            have jy0 : (0 : Int) ≤ jy := by omega
            have jy1 : jy < ((rd_L1 l2 x).length : Int) := by omega
            have jy2 : jy < (l1.length : Int) + 1 := by have := HY2.out; omega
            have HJY2 := Aside0.mk jy2
            obtain ⟨ad', ea', hlc⟩ := Kd.at_int HROW.out jy jy0 jy1
            cases ea'
            replace hlc := (HB.out.cell (World.block_lt_of_cell? w _ hlc)).trans hlc
            obtain ⟨l, el⟩ : ∃ v, rd (rd_L1 l2 x) jy = v := ⟨_, rfl⟩
            rw [el] at hB hlc
            obtain ⟨l_1, el1⟩ : ∃ v, wrap64 (l + 1) = v := ⟨_, rfl⟩
            have wl := (i64_w (l + 1)).trans el1
            rw [el1] at hB
            clear el el1 y0 jy2
            obtain ⟨m1, em1⟩ : ∃ m : Int, (if l_1 < m0 then l_1 else m0) = m := ⟨_, rfl⟩
            have HM1 := Aside0.mk (show m1 ≤ m0 ∧ m1 ≤ l_1 ∧ (m1 = m0 ∨ m1 = l_1) by rw [← em1]; split <;> omega)
            have ju : jy < ((rd_L1 l2 jx).length : Int) := by have := HU.out.1; have := HJY2.out; omega
            obtain ⟨au', ea', hdc⟩ := Kd.at_int HRU.out jy jy0 ju
            cases ea'
            replace hdc := (HB.out.cell (World.block_lt_of_cell? w _ hdc)).trans hdc
            have hdr := bd_range HU.out jy0 HJY2.out
            obtain ⟨d, ed⟩ : ∃ v, rd (rd_L1 l2 jx) jy = v := ⟨_, rfl⟩
            rw [ed] at hB hdc hdr
            have HDR := Aside0.mk hdr
            have jh : jx < (l0.length : Int) := by have := HL.out; omega
            have jc : jy < (l1.length : Int) := by have := HY2.out; omega
            obtain ⟨a0, rfl, hhc⟩ := Kd.at_int HR0.out jx jx0 jh
            obtain ⟨a1, rfl, hpc⟩ := Kd.at_int HR1.out jy jy0 jc
            replace hhc := (HB.out.cell (World.block_lt_of_cell? w _ hhc)).trans hhc
            replace hpc := (HB.out.cell (World.block_lt_of_cell? w _ hpc)).trans hpc
            obtain ⟨hh, eh⟩ : ∃ v, rd l0 jx = v := ⟨_, rfl⟩
            obtain ⟨pp, ep⟩ : ∃ v, rd l1 jy = v := ⟨_, rfl⟩
            rw [eh] at hhc hB
            rw [ep] at hpc hB
            have wd := bd_wrap (n := d + 0) ⟨by omega, by omega⟩
            have wd1 := bd_wrap (n := d + 1) ⟨by omega, by omega⟩
            have wd2 := (i64_w (d + 1)).trans wd1
            clear ed eh ep hdr
            by_cases hp : hh = pp
            ·have dhp : (hh == pp) = true := beq_iff_eq.2 hp
             rw [if_pos hp, wd] at hB
             obtain ⟨m2, em2⟩ : ∃ m : Int, (if d < m1 then d else m1) = m := ⟨_, rfl⟩
             have HM := Aside0.mk (show m2 ≤ m1 ∧ m2 ≤ d + 0 ∧ (m2 = m1 ∨ m2 = d + 0) ∧ m1 ≤ m0 ∧ m1 ≤ l_1 ∧ (m1 = m0 ∨ m1 = l_1) ∧ m0 ≤ 1000 ∧ m0 ≤ u_1 ∧ (m0 = 1000 ∨ m0 = u_1) by have := HM0.out; have := HM1.out; rw [← em2]; split <;> omega)
             clear hp wd wd1 wd2
             by_cases b1 : v < -1000
             ·have db1 : decide (v < -1000) = true := decide_eq_true b1
              obtain ⟨rfl, rfl⟩ := bd_failc HH.out hx0 hx1 hy0 HY2.out (hB.2 (by have := HM.out; have := HY0.out; have := HXP.out; omega))
              clear hB
              go_wp2
              repeat (go_quiet (fail); try go_wp2)
              go_ret2
              exact ⟨rfl, zW HB.out⟩
             ·have db1 : decide (v < -1000) = false := decide_eq_false b1
              by_cases b2 : m2 < v
              ·have db2 : decide (m2 < v) = true := decide_eq_true b2
               obtain ⟨rfl, rfl⟩ := bd_failc HH.out hx0 hx1 hy0 HY2.out (hB.2 (by have := HM.out; have := HY0.out; have := HXP.out; omega))
               clear hB
               go_wp2
               repeat (go_quiet (fail); try go_wp2)
               go_ret2
               exact ⟨rfl, zW HB.out⟩
              ·have db2 : decide (m2 < v) = false := decide_eq_false b2
               have HN := Aside0.mk (fun hb => by have := hB.1 hb; have := HM.out; have := HY0.out; have := HXP.out; omega : ¬ bd_bad l0 l1 l2 x y)
               clear hB
               go_wp2
               repeat (go_quiet (fail); try go_wp2)
               go_roundw
               case rel => exact ⟨y + 1, by go_num, ⟨by omega, by have := HY2.out; omega⟩, ⟨fun j hj => by
                by_cases hjy : (j : Int) = y
                ·rw [hjy]; exact HN.out
                ·exact HJ.out j (by omega)⟩, ⟨zW HB.out⟩⟩
               case measure => simp [intOf]; have := HY2.out; omega
            ·have dhp : (hh == pp) = false := beq_eq_false_iff_ne.2 hp
             rw [if_neg hp, wd1] at hB
             obtain ⟨m2, em2⟩ : ∃ m : Int, (if d + 1 < m1 then d + 1 else m1) = m := ⟨_, rfl⟩
             have HM := Aside0.mk (show m2 ≤ m1 ∧ m2 ≤ d + 1 ∧ (m2 = m1 ∨ m2 = d + 1) ∧ m1 ≤ m0 ∧ m1 ≤ l_1 ∧ (m1 = m0 ∨ m1 = l_1) ∧ m0 ≤ 1000 ∧ m0 ≤ u_1 ∧ (m0 = 1000 ∨ m0 = u_1) by have := HM0.out; have := HM1.out; rw [← em2]; split <;> omega)
             clear hp wd wd1
             by_cases b1 : v < -1000
             ·have db1 : decide (v < -1000) = true := decide_eq_true b1
              obtain ⟨rfl, rfl⟩ := bd_failc HH.out hx0 hx1 hy0 HY2.out (hB.2 (by have := HM.out; have := HY0.out; have := HXP.out; omega))
              clear hB
              go_wp2
              repeat (go_quiet (fail); try go_wp2)
              go_ret2
              exact ⟨rfl, zW HB.out⟩
             ·have db1 : decide (v < -1000) = false := decide_eq_false b1
              by_cases b2 : m2 < v
              ·have db2 : decide (m2 < v) = true := decide_eq_true b2
               obtain ⟨rfl, rfl⟩ := bd_failc HH.out hx0 hx1 hy0 HY2.out (hB.2 (by have := HM.out; have := HY0.out; have := HXP.out; omega))
               clear hB
               go_wp2
               repeat (go_quiet (fail); try go_wp2)
               go_ret2
               exact ⟨rfl, zW HB.out⟩
              ·have db2 : decide (m2 < v) = false := decide_eq_false b2
               have HN := Aside0.mk (fun hb => by have := hB.1 hb; have := HM.out; have := HY0.out; have := HXP.out; omega : ¬ bd_bad l0 l1 l2 x y)
               clear hB
               go_wp2
               repeat (go_quiet (fail); try go_wp2)
               go_roundw
               case rel => exact ⟨y + 1, by go_num, ⟨by omega, by have := HY2.out; omega⟩, ⟨fun j hj => by
                by_cases hjy : (j : Int) = y
                ·rw [hjy]; exact HN.out
                ·exact HJ.out j (by omega)⟩, ⟨zW HB.out⟩⟩
               case measure => simp [intOf]; have := HY2.out; omega
          ·have HRW := Aside0.mk (show bd_row l0 l1 l2 x from ⟨HRL.out, fun j hj => HJ.out j (by have := HRL.out; omega)⟩)
           have dy : decide (y < ((rd_L1 l2 x).length : Int)) = false := decide_eq_false hy1
           go_wp2
           go_roundw
           case rel => exact ⟨x + 1, by go_num, ⟨by omega, by omega⟩, ⟨fun i hi => by
            by_cases hix : (i : Int) = x
            ·rw [hix]; exact HRW.out
            ·exact HI.out i (by omega)⟩, HB⟩
           case measure => simp [intOf]; omega
        ·have dr : (((rd_L1 l2 x).length : Int) != (l1.length : Int) + 1) = true := bne_iff_ne.2 (by omega)
         obtain ⟨rfl, rfl⟩ := bd_fail HH.out hx0 hx1 (fun hr => hrl hr.1)
         clear hrl
         go_wp2
         go_ret2
         exact ⟨rfl, HB.out⟩
      ·obtain ⟨z, hz, h⟩ := Option.bind_eq_some_iff.1 (bd_done HH.out hx1 HI.out)
       obtain ⟨rfl, rfl⟩ := Prod.mk.inj (Option.some.inj h)
       have A5 := Aside0.mk hz
       have hq : (l0.length : Int) < (l2.length : Int) := by have := HL.out; omega
       have hq0 : (0 : Int) ≤ (l0.length : Int) := by omega
       obtain ⟨ad2, Ar, cr, e2, hcell, hle, hrow⟩ := at_L1 HR2.out (l0.length : Int) hq0 hq
       subst e2
       have hcw := (HB.out.cell (World.block_lt_of_cell? w _ hcell)).trans hcell
       rw [Int.toNat_natCast] at hcw
       have HLE := Aside0.mk hle
       have HROW := Aside0.mk (Kd.C_below hrow HB.out)
       clear hz h hcell hle hrow
       go_wp2_with (fail)
       refine (slices_Min_int_int.calls _ _ _ z _ HROW.out HLE.out A5.out).mono ?_
       rintro e wb ⟨rfl, hb⟩
       go_wp2
       go_ret2
       exact ⟨rfl, below_step HB.out hb⟩
    ·have dl : ((l2.length : Int) != (l0.length : Int) + 1) = true := bne_iff_ne.2 (by omega)
     obtain ⟨rfl, rfl⟩ := Prod.mk.inj (Option.some.inj ((if_neg hlen).symm.trans h))
     clear h hlen
     go_wp2
     go_ret2
     exact ⟨rfl, HB2.out⟩
 next => cases h

end Go.Proofs.Ytgaepndbfpfniaa.PFR
