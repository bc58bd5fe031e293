-- PRINTED by print.py (a twelfth state) out of the translation. Not trusted: Lean checks it.
import Derived.Test.YtgaepndbfpfniaaPFRx0
import Derived.Test.YtgaepndbfpfniaaPFRx13
import Derived.Test.YtgaepndbfpfniaaPFRx14
import Derived.RangeFuncNested
import Derived.RangeFuncBound
import Derived.RangeFuncCalls
import Derived.RangeFuncLeaves
import Derived.RangeFuncBox
import Derived.Shelf.Abstract
import Derived.Shelf.RegionOpen
import Derived.OwnWalkIn
import Derived.TacticsInMore
import Derived.LoopNIn
import Derived.LoopIn
import Derived.OneCell
import Derived.BigQuiet
import Derived.Deep.RegionWith
import Derived.Deep.RegionHeld3
import Derived.Deep.RegionLaw
import Derived.IntWalk
import Derived.Lib.SliceRun
import Derived.Deep.RegionLawGrows
namespace Go.Proofs.Ytgaepndbfpfniaa.PFR
open Go.RowKit Go.Proofs.YtgaepndbfpfniaaW.PrintWords Go.Proofs.YtgaepndbfpfniaaW.PrintLast Go.Proofs.YtgaepndbfpfniaaW.PrintMore
attribute [local go_sem] max2_int min2_int max_two min_two max_three min_three max_four min_four   -- for this text's walks alone
set_option linter.unusedVariables false
set_option linter.unusedSimpArgs false

attribute [local go_sem] Oper.semAt_some
open Go.Shelf
-- given by hand: ck2
theorem ck_take {l : List Int} {te k : Nat} (h : k < te) : rd (l.take te) (k : Int) = rd l (k : Int) := by
 simp only [rd, Int.toNat_natCast, List.getD_eq_getElem?_getD, List.getElem?_take, if_pos h]
def aircheckref36_Check.f (k : Nat) (l0 l1 : List Int) (a2_0 a2_1 a2_2 a2_3 : Int) (l2_4 : List Int) : Option Bool :=
 if l0.length ≤ 1000 ∧ l1.length ≤ 1000 ∧ l2_4.length ≤ 1000 then (aircheckref36_Heard.f k l0).bind fun v => if v = true then (aircheckref36_IsPrint.f k l1).bind fun u => if u = true then if a2_1 < 0 ∨ a2_2 < a2_1 ∨ (l1.length : Int) < a2_2 then some false else some (ck a2_3 l2_4 l0 ((l1.take a2_2.toNat).drop a2_1.toNat) 0) else some false else some false else none
set_option maxRecDepth 100000 in
set_option maxHeartbeats 8000000 in
theorem aircheckref36_Check.calls (k : Nat) (A0 : Option Addr) (c0 : Nat) (l0 : List Int) (A1 : Option Addr) (c1 : Nat) (l1 : List Int) (a2_0 a2_1 a2_2 a2_3 : Int) (A2_4 : Option Addr) (c2_4 : Nat) (l2_4 : List Int) (r : Bool) (w : World) (hr0 : Kd.C (Kd.int .i64) w A0 l0.length l0) (hc0 : l0.length ≤ c0) (hr1 : Kd.C (Kd.int .i64) w A1 l1.length l1) (hc1 : l1.length ≤ c1) (hr2 : Kd.C (Kd.int .i64) w A2_4 l2_4.length l2_4) (hc2 : l2_4.length ≤ c2_4) (h : aircheckref36_Check.f k l0 l1 a2_0 a2_1 a2_2 a2_3 l2_4 = some r) :
  Calls Try.prog 30 #[.slice A0 l0.length c0, .slice A1 l1.length c1, .agg #[.int .i64 a2_0, .int .i64 a2_1, .int .i64 a2_2, .int .i64 a2_3, .slice A2_4 l2_4.length c2_4]] w fun e w' => e = .returned (.bool r) ∧ Below w.heap.size w w' := by
 unfold aircheckref36_Check.f at h
 split at h
 next hl =>
  obtain ⟨hl0, hl1, hl2⟩ := hl
  obtain ⟨v, hv, h⟩ := Option.bind_eq_some_iff.1 h
  have HR0 := Aside0.mk hr0
  have HC0 := Aside0.mk hc0
  have HR1 := Aside0.mk hr1
  have HC1 := Aside0.mk hc1
  have HR2 := Aside0.mk hr2
  have HC2 := Aside0.mk hc2
  have A3 := Aside0.mk hv
  have HL0 := Aside0.mk hl0
  have HL1 := Aside0.mk hl1
  have HL2 := Aside0.mk hl2
  have HB := Aside0.mk (Below.refl w.heap.size w)
  have HH := Aside0.mk h
  clear hr0 hc0 hr1 hc1 hr2 hc2 hv hl0 hl1 hl2 h
  go_enter Try.func30, Try.ntmps30
  go_wp2_with ((with_reducible refine gate_dst (N := 5) rfl ?_); (try (refine gate_guard (by rfl) ?_; dsimp only)); refine box_event ?hg (N := 5) ?hd (cs := #[.int .i64 a2_0, .int .i64 a2_1, .int .i64 a2_2, .int .i64 a2_3, .slice A2_4 l2_4.length c2_4]) (t := 25) ?hr ?_; (case hd => rfl); (case hg => rfl); (case hr => first | (go_simp; done) | (go_simp; rfl)); intro gb hg W1 hbox hb; have n0_ := Aside0.mk (below_step (by exact HB.out) hb); have BK := Aside0.mk hbox; have GE := Aside0.mk (by rw [hg]; exact HB.out.size : w.heap.size ≤ gb); clear HB hb hbox hg; have HB := n0_; clear n0_)
  refine (aircheckref36_Heard.calls k _ _ l0 v _ (zC (Kd.C_below HR0.out HB.out)) HC0.out A3.out).mono ?_
  rintro e W2 ⟨rfl, hd⟩
  have hb := hd.below
  clear hd
  have n2_ := Aside0.mk (blk_below BK.out hb)
  have n3_ := Aside0.mk (below_step HB.out hb)
  clear BK HB hb
  have BK := n2_
  have HB := n3_
  clear n2_ n3_
  obtain ⟨hc1, hf1, hc2, hf2, hc3, hf3, hc4, hf4⟩ := ck_cells BK.out
  have h := HH.out
  clear HH
  cases v with
  | false =>
   obtain rfl := Option.some.inj ((if_neg (by decide)).symm.trans h)
   clear h
   go_wp2
   repeat (go_quiet (fail); try go_wp2)
   go_ret
   exact ⟨rfl, zX HB.out GE.out⟩
  | true =>
   rw [if_pos rfl] at h
   obtain ⟨u, hu, h⟩ := Option.bind_eq_some_iff.1 h
   have A4 := Aside0.mk hu
   have HH := Aside0.mk h
   clear hu h hc1 hf1 hc2 hf2 hc3 hf3 hc4 hf4
   go_wp2_with (fail)
   refine (aircheckref36_IsPrint.calls k _ _ l1 u _ (zC (Kd.C_below HR1.out HB.out)) HC1.out A4.out).mono ?_
   rintro e W3 ⟨rfl, hd⟩
   have hb := hd.below
   clear hd
   have n2_ := Aside0.mk (blk_below BK.out hb)
   have n3_ := Aside0.mk (below_step HB.out hb)
   clear BK HB hb
   have BK := n2_
   have HB := n3_
   clear n2_ n3_
   obtain ⟨hc1, hf1, hc2, hf2, hc3, hf3, hc4, hf4⟩ := ck_cells BK.out
   have h := HH.out
   clear HH
   cases u with
   | false =>
    obtain rfl := Option.some.inj ((if_neg (by decide)).symm.trans h)
    clear h
    go_wp2
    repeat (go_quiet (fail); try go_wp2)
    go_ret
    exact ⟨rfl, zX HB.out GE.out⟩
   | true =>
    rw [if_pos rfl] at h
    by_cases c0 : a2_1 < 0
    ·have d0 : decide (a2_1 < 0) = true := decide_eq_true c0
     rw [if_pos (by omega)] at h
     obtain rfl := Option.some.inj h
     clear h
     go_wp2
     repeat (go_quiet (fail); try go_wp2)
     go_ret
     exact ⟨rfl, zX HB.out GE.out⟩
    ·have d0 : decide (a2_1 < 0) = false := decide_eq_false c0
     by_cases c1 : a2_2 < a2_1
     ·have d1 : decide (a2_2 < a2_1) = true := decide_eq_true c1
      rw [if_pos (by omega)] at h
      obtain rfl := Option.some.inj h
      clear h
      go_wp2
      repeat (go_quiet (fail); try go_wp2)
      go_ret
      exact ⟨rfl, zX HB.out GE.out⟩
     ·have d1 : decide (a2_2 < a2_1) = false := decide_eq_false c1
      by_cases c2 : (l1.length : Int) < a2_2
      ·have d2 : decide ((l1.length : Int) < a2_2) = true := decide_eq_true c2
       rw [if_pos (by omega)] at h
       obtain rfl := Option.some.inj h
       clear h
       go_wp2
       repeat (go_quiet (fail); try go_wp2)
       go_ret
       exact ⟨rfl, zX HB.out GE.out⟩
      ·have d2 : decide ((l1.length : Int) < a2_2) = false := decide_eq_false c2
       rw [if_neg (by omega)] at h
       have hck := Option.some.inj h
       have p0 : 0 ≤ a2_1 := by omega
       have p1 : a2_1 ≤ a2_2 := by omega
       have p2 : a2_2 ≤ (l1.length : Int) := by omega
       clear h c0 c1 c2
       go_wp2
       repeat (go_quiet (fail); try go_wp2)
       obtain ⟨fr, rfl⟩ : ∃ n : Nat, a2_1 = n := ⟨a2_1.toNat, by omega⟩
       obtain ⟨te, rfl⟩ : ∃ n : Nat, a2_2 = n := ⟨a2_2.toNat, by omega⟩
       rw [Int.toNat_natCast, Int.toNat_natCast] at hck
       clear d0 d1 d2
       have hft : fr ≤ te := by omega
       have htl : te ≤ l1.length := by omega
       have HFT := Aside0.mk hft
       have HTL := Aside0.mk htl
       have HCK := Aside0.mk hck
       clear p0 p1 p2 hck hft htl
       go_loopw [7, 8, 9, 10] (fun a b s q wr => ∃ (i k j : Nat) (e : Int), a = .int .i64 i ∧ b = .int .i64 k ∧ s = .int .i64 e ∧ q = .int .i64 j ∧ Aside0 (i ≤ l0.length ∧ fr ≤ k ∧ k ≤ te ∧ 0 ≤ e ∧ e ≤ j ∧ j ≤ l2_4.length) ∧ Aside0 (ck a2_3 (l2_4.drop j) (l0.drop i) ((l1.take te).drop k) e = r) ∧ Aside0 (Below w.heap.size w wr) ∧ Aside0 (wr.heap[gb]? = some (.cells #[.int .i64 a2_0, .int .i64 fr, .int .i64 te, .int .i64 a2_3, .slice A2_4 l2_4.length c2_4] 25 (0, 0)))) (fun _ _ _ q _ => l2_4.length - (intOf q).toNat)
       case atStart => exact ⟨0, fr, 0, 0, rfl, rfl, rfl, rfl, ⟨Nat.zero_le _, Nat.le_refl _, HFT.out, by omega, by omega, Nat.zero_le _⟩, HCK, ⟨zX HB.out GE.out⟩, ⟨zB BK.out⟩⟩
       case round =>
        clear HB BK HCK A3 A4 hc1 hf1 hc2 hf2 hc3 hf3 hc4 hf4
        obtain ⟨i, k, j, e, rfl, rfl, rfl, rfl, HN, HCK, HB, BK⟩ := hrel
        obtain ⟨hc1, hf1, hc2, hf2, hc3, hf3, hc4, hf4⟩ := ck_cells BK.out
        by_cases hj : j < l2_4.length
        ·have j0 : (0 : Int) ≤ (j : Int) := by omega
         have j1 : (j : Int) < (l2_4.length : Int) := by omega
         obtain ⟨ao, eo, hoc⟩ := Kd.at_int HR2.out (j : Int) j0 j1
         subst eo
         rw [Int.toNat_natCast] at hoc
         replace hoc := (HB.out.cell (World.block_lt_of_cell? w _ hoc)).trans hoc
         have hck := HCK.out
         rw [ck_rd hj] at hck
         obtain ⟨op, hop⟩ : ∃ v, rd l2_4 (j : Int) = v := ⟨_, rfl⟩
         rw [hop] at hck hoc
         replace HCK := Aside0.mk hck
         have HJ := Aside0.mk hj
         clear hck hop hj
         have wj : IntKind.i64.wrap ((j : Int) + 1) = (j : Int) + 1 := by rw [i64_w]; exact ck_wrap ⟨by omega, by have := HL2.out; omega⟩
         have we : IntKind.i64.wrap (e + 1) = e + 1 := by rw [i64_w]; have := HN.out; exact ck_wrap ⟨by omega, by have := HL2.out; omega⟩
         have wi : IntKind.i64.wrap ((i : Int) + 1) = (i : Int) + 1 := by rw [i64_w]; have := HN.out; exact ck_wrap ⟨by omega, by have := HL0.out; omega⟩
         have wk : IntKind.i64.wrap ((k : Int) + 1) = (k : Int) + 1 := by rw [i64_w]; have := HN.out; have := HTL.out; exact ck_wrap ⟨by omega, by have := HL1.out; omega⟩
         by_cases o1 : op < 1
         ·have d1 : decide (op < 1) = true := decide_eq_true o1
          obtain rfl : false = r := by rw [← HCK.out]; unfold ck; rw [if_neg (by omega), if_neg (by omega), if_neg (by omega), if_neg (by omega)]
          clear o1
          go_wp2
          repeat (go_quiet (fail); try go_wp2)
          go_ret
          exact ⟨rfl, zX HB.out GE.out⟩
         ·have d1 : decide (op < 1) = false := decide_eq_false o1
          by_cases o2 : 4 < op
          ·have d2 : decide (4 < op) = true := decide_eq_true o2
           obtain rfl : false = r := by rw [← HCK.out]; unfold ck; rw [if_neg (by omega), if_neg (by omega), if_neg (by omega), if_neg (by omega)]
           clear o1 o2
           go_wp2
           repeat (go_quiet (fail); try go_wp2)
           go_ret
           exact ⟨rfl, zX HB.out GE.out⟩
          ·have d2 : decide (4 < op) = false := decide_eq_false o2
           have oo : op = 1 ∨ op = 2 ∨ op = 3 ∨ op = 4 := by omega
           clear d1 d2 o1 o2
           rcases oo with rfl | rfl | rfl | rfl
           ·by_cases hi : i = l0.length
            ·have di : ((i : Int) == (l0.length : Int)) = true := beq_iff_eq.2 (by omega)
             replace HCK := Aside0.mk (show ck a2_3 (1 :: l2_4.drop (j + 1)) [] ((l1.take te).drop k) e = r by rw [← HCK.out, List.drop_eq_nil_of_le (show l0.length ≤ i by omega)])
             clear hi
             obtain rfl : false = r := by rw [← HCK.out]; simp [ck]
             go_wp2
             repeat (go_quiet (fail); try go_wp2)
             go_ret
             exact ⟨rfl, zX HB.out GE.out⟩
            ·skip
             have di : ((i : Int) == (l0.length : Int)) = false := beq_eq_false_iff_ne.2 (by omega)
             have hi' : i < l0.length := by have := HN.out; omega
             replace HCK := Aside0.mk (show ck a2_3 (1 :: l2_4.drop (j + 1)) (rd l0 (i : Int) :: l0.drop (i + 1)) ((l1.take te).drop k) e = r by rw [← HCK.out, ← ck_rd hi'])
             have HI := Aside0.mk hi'
             clear hi hi'
             by_cases hk : k = te
             ·have dk : ((k : Int) == (te : Int)) = true := beq_iff_eq.2 (by omega)
              replace HCK := Aside0.mk (show ck a2_3 (1 :: l2_4.drop (j + 1)) (rd l0 (i : Int) :: l0.drop (i + 1)) [] e = r by rw [← HCK.out, List.drop_eq_nil_of_le (show (l1.take te).length ≤ k by rw [List.length_take]; omega)])
              clear hk
              obtain rfl : false = r := by rw [← HCK.out]; simp [ck]
              go_wp2
              repeat (go_quiet (fail); try go_wp2)
              go_ret
              exact ⟨rfl, zX HB.out GE.out⟩
             ·skip
              have dk : ((k : Int) == (te : Int)) = false := beq_eq_false_iff_ne.2 (by omega)
              have hk' : k < te := by have := HN.out; omega
              replace HCK := Aside0.mk (show ck a2_3 (1 :: l2_4.drop (j + 1)) (rd l0 (i : Int) :: l0.drop (i + 1)) (rd l1 (k : Int) :: (l1.take te).drop (k + 1)) e = r by rw [← HCK.out, ck_rd (show k < (l1.take te).length by rw [List.length_take]; have := HTL.out; omega), ck_take hk'])
              have HK := Aside0.mk hk'
              clear hk hk'
              have i0 : (0 : Int) ≤ (i : Int) := by omega
              have i1 : (i : Int) < (l0.length : Int) := by have := HI.out; omega
              have k0 : (0 : Int) ≤ (k : Int) := by omega
              have k1 : (k : Int) < (l1.length : Int) := by have := HK.out; have := HTL.out; omega
              obtain ⟨a0, ea0, hxc⟩ := Kd.at_int HR0.out (i : Int) i0 i1
              subst ea0
              obtain ⟨b0, eb0, hyc⟩ := Kd.at_int HR1.out (k : Int) k0 k1
              subst eb0
              rw [Int.toNat_natCast] at hxc hyc
              replace hxc := (HB.out.cell (World.block_lt_of_cell? w _ hxc)).trans hxc
              replace hyc := (HB.out.cell (World.block_lt_of_cell? w _ hyc)).trans hyc
              obtain ⟨x, ex⟩ : ∃ v, rd l0 (i : Int) = v := ⟨_, rfl⟩
              obtain ⟨y, ey⟩ : ∃ v, rd l1 (k : Int) = v := ⟨_, rfl⟩
              rw [ex] at hxc
              rw [ey] at hyc
              replace HCK := Aside0.mk (show ck a2_3 (1 :: l2_4.drop (j + 1)) (x :: l0.drop (i + 1)) (y :: (l1.take te).drop (k + 1)) e = r by rw [← ex, ← ey]; exact HCK.out)
              clear ex ey
              by_cases xy : x = y
              ·subst xy
               replace HCK := Aside0.mk (show ck a2_3 (l2_4.drop (j + 1)) (l0.drop (i + 1)) ((l1.take te).drop (k + 1)) e = r by have := HCK.out; simpa [ck] using this)
               go_wp2
               repeat (go_quiet (fail); try go_wp2)
               go_roundw
               case rel => exact ⟨i + 1, k + 1, j + 1, e, by go_num, by go_num, rfl, by go_num, ⟨HI.out, by have := HN.out; omega, HK.out, by have := HN.out; omega, by have := HN.out; omega, HJ.out⟩, HCK, ⟨zX HB.out GE.out⟩, ⟨zB BK.out⟩⟩
               case measure => simp [intOf]; have := HJ.out; omega
              ·have dxy : (x == y) = false := beq_eq_false_iff_ne.2 xy
               have dxz : (x != y) = true := bne_iff_ne.2 xy
               obtain rfl : false = r := by rw [← HCK.out]; simp [ck, xy]
               clear xy
               go_wp2
               repeat (go_quiet (fail); try go_wp2)
               go_ret
               exact ⟨rfl, zX HB.out GE.out⟩
           ·by_cases hi : i = l0.length
            ·have di : ((i : Int) == (l0.length : Int)) = true := beq_iff_eq.2 (by omega)
             replace HCK := Aside0.mk (show ck a2_3 (2 :: l2_4.drop (j + 1)) [] ((l1.take te).drop k) e = r by rw [← HCK.out, List.drop_eq_nil_of_le (show l0.length ≤ i by omega)])
             clear hi
             obtain rfl : false = r := by rw [← HCK.out]; simp [ck]
             go_wp2
             repeat (go_quiet (fail); try go_wp2)
             go_ret
             exact ⟨rfl, zX HB.out GE.out⟩
            ·skip
             have di : ((i : Int) == (l0.length : Int)) = false := beq_eq_false_iff_ne.2 (by omega)
             have hi' : i < l0.length := by have := HN.out; omega
             replace HCK := Aside0.mk (show ck a2_3 (2 :: l2_4.drop (j + 1)) (rd l0 (i : Int) :: l0.drop (i + 1)) ((l1.take te).drop k) e = r by rw [← HCK.out, ← ck_rd hi'])
             have HI := Aside0.mk hi'
             clear hi hi'
             by_cases hk : k = te
             ·have dk : ((k : Int) == (te : Int)) = true := beq_iff_eq.2 (by omega)
              replace HCK := Aside0.mk (show ck a2_3 (2 :: l2_4.drop (j + 1)) (rd l0 (i : Int) :: l0.drop (i + 1)) [] e = r by rw [← HCK.out, List.drop_eq_nil_of_le (show (l1.take te).length ≤ k by rw [List.length_take]; omega)])
              clear hk
              obtain rfl : false = r := by rw [← HCK.out]; simp [ck]
              go_wp2
              repeat (go_quiet (fail); try go_wp2)
              go_ret
              exact ⟨rfl, zX HB.out GE.out⟩
             ·skip
              have dk : ((k : Int) == (te : Int)) = false := beq_eq_false_iff_ne.2 (by omega)
              have hk' : k < te := by have := HN.out; omega
              replace HCK := Aside0.mk (show ck a2_3 (2 :: l2_4.drop (j + 1)) (rd l0 (i : Int) :: l0.drop (i + 1)) (rd l1 (k : Int) :: (l1.take te).drop (k + 1)) e = r by rw [← HCK.out, ck_rd (show k < (l1.take te).length by rw [List.length_take]; have := HTL.out; omega), ck_take hk'])
              have HK := Aside0.mk hk'
              clear hk hk'
              have i0 : (0 : Int) ≤ (i : Int) := by omega
              have i1 : (i : Int) < (l0.length : Int) := by have := HI.out; omega
              have k0 : (0 : Int) ≤ (k : Int) := by omega
              have k1 : (k : Int) < (l1.length : Int) := by have := HK.out; have := HTL.out; omega
              obtain ⟨a0, ea0, hxc⟩ := Kd.at_int HR0.out (i : Int) i0 i1
              subst ea0
              obtain ⟨b0, eb0, hyc⟩ := Kd.at_int HR1.out (k : Int) k0 k1
              subst eb0
              rw [Int.toNat_natCast] at hxc hyc
              replace hxc := (HB.out.cell (World.block_lt_of_cell? w _ hxc)).trans hxc
              replace hyc := (HB.out.cell (World.block_lt_of_cell? w _ hyc)).trans hyc
              obtain ⟨x, ex⟩ : ∃ v, rd l0 (i : Int) = v := ⟨_, rfl⟩
              obtain ⟨y, ey⟩ : ∃ v, rd l1 (k : Int) = v := ⟨_, rfl⟩
              rw [ex] at hxc
              rw [ey] at hyc
              replace HCK := Aside0.mk (show ck a2_3 (2 :: l2_4.drop (j + 1)) (x :: l0.drop (i + 1)) (y :: (l1.take te).drop (k + 1)) e = r by rw [← ex, ← ey]; exact HCK.out)
              clear ex ey
              by_cases xy : x = y
              ·subst xy
               obtain rfl : false = r := by rw [← HCK.out]; simp [ck]
               go_wp2
               repeat (go_quiet (fail); try go_wp2)
               go_ret
               exact ⟨rfl, zX HB.out GE.out⟩
              ·have dxy : (x == y) = false := beq_eq_false_iff_ne.2 xy
               have dxz : (x != y) = true := bne_iff_ne.2 xy
               replace HCK := Aside0.mk (show ck a2_3 (l2_4.drop (j + 1)) (l0.drop (i + 1)) ((l1.take te).drop (k + 1)) (e + 1) = r by have := HCK.out; simpa [ck, xy] using this)
               clear xy
               go_wp2
               repeat (go_quiet (fail); try go_wp2)
               go_roundw
               case rel => exact ⟨i + 1, k + 1, j + 1, e + 1, by go_num, by go_num, rfl, by go_num, ⟨HI.out, by have := HN.out; omega, HK.out, by have := HN.out; omega, by have := HN.out; omega, HJ.out⟩, HCK, ⟨zX HB.out GE.out⟩, ⟨zB BK.out⟩⟩
               case measure => simp [intOf]; have := HJ.out; omega
           ·by_cases hi : i = l0.length
            ·have di : ((i : Int) == (l0.length : Int)) = true := beq_iff_eq.2 (by omega)
             replace HCK := Aside0.mk (show ck a2_3 (3 :: l2_4.drop (j + 1)) [] ((l1.take te).drop k) e = r by rw [← HCK.out, List.drop_eq_nil_of_le (show l0.length ≤ i by omega)])
             clear hi
             obtain rfl : false = r := by rw [← HCK.out]; simp [ck]
             go_wp2
             repeat (go_quiet (fail); try go_wp2)
             go_ret
             exact ⟨rfl, zX HB.out GE.out⟩
            ·skip
             have di : ((i : Int) == (l0.length : Int)) = false := beq_eq_false_iff_ne.2 (by omega)
             have hi' : i < l0.length := by have := HN.out; omega
             replace HCK := Aside0.mk (show ck a2_3 (3 :: l2_4.drop (j + 1)) (rd l0 (i : Int) :: l0.drop (i + 1)) ((l1.take te).drop k) e = r by rw [← HCK.out, ← ck_rd hi'])
             have HI := Aside0.mk hi'
             clear hi hi'
             replace HCK := Aside0.mk (show ck a2_3 (l2_4.drop (j + 1)) (l0.drop (i + 1)) ((l1.take te).drop k) (e + 1) = r by have := HCK.out; simpa [ck] using this)
             go_wp2
             repeat (go_quiet (fail); try go_wp2)
             go_roundw
             case rel => exact ⟨i + 1, k, j + 1, e + 1, by go_num, by go_num, rfl, by go_num, ⟨HI.out, by have := HN.out; omega, HN.out.2.2.1, by have := HN.out; omega, by have := HN.out; omega, HJ.out⟩, HCK, ⟨zX HB.out GE.out⟩, ⟨zB BK.out⟩⟩
             case measure => simp [intOf]; have := HJ.out; omega
           ·skip
            by_cases hk : k = te
            ·have dk : ((k : Int) == (te : Int)) = true := beq_iff_eq.2 (by omega)
             replace HCK := Aside0.mk (show ck a2_3 (4 :: l2_4.drop (j + 1)) (l0.drop i) [] e = r by rw [← HCK.out, List.drop_eq_nil_of_le (show (l1.take te).length ≤ k by rw [List.length_take]; omega)])
             clear hk
             obtain rfl : false = r := by rw [← HCK.out]; simp [ck]
             go_wp2
             repeat (go_quiet (fail); try go_wp2)
             go_ret
             exact ⟨rfl, zX HB.out GE.out⟩
            ·skip
             have dk : ((k : Int) == (te : Int)) = false := beq_eq_false_iff_ne.2 (by omega)
             have hk' : k < te := by have := HN.out; omega
             replace HCK := Aside0.mk (show ck a2_3 (4 :: l2_4.drop (j + 1)) (l0.drop i) (rd l1 (k : Int) :: (l1.take te).drop (k + 1)) e = r by rw [← HCK.out, ck_rd (show k < (l1.take te).length by rw [List.length_take]; have := HTL.out; omega), ck_take hk'])
             have HK := Aside0.mk hk'
             clear hk hk'
             replace HCK := Aside0.mk (show ck a2_3 (l2_4.drop (j + 1)) (l0.drop i) ((l1.take te).drop (k + 1)) (e + 1) = r by have := HCK.out; simpa [ck] using this)
             go_wp2
             repeat (go_quiet (fail); try go_wp2)
             go_roundw
             case rel => exact ⟨i, k + 1, j + 1, e + 1, by go_num, by go_num, rfl, by go_num, ⟨HN.out.1, by have := HN.out; omega, HK.out, by have := HN.out; omega, by have := HN.out; omega, HJ.out⟩, HCK, ⟨zX HB.out GE.out⟩, ⟨zB BK.out⟩⟩
             case measure => simp [intOf]; have := HJ.out; omega
        ·have hck := HCK.out
         rw [List.drop_eq_nil_of_le (by omega)] at hck
         have dj : decide ((j : Int) < (l2_4.length : Int)) = false := decide_eq_false (by omega)
         have hr : r = ((i : Int) == (l0.length : Int) && (k : Int) == (te : Int) && e == a2_3) := by
          rw [← hck, Bool.eq_iff_iff]
          simp only [ck, decide_eq_true_eq, Bool.and_eq_true, beq_iff_eq, List.drop_eq_nil_iff, List.length_take]
          have := HN.out; have := HTL.out
          constructor
          ·rintro ⟨a, b, c⟩; exact ⟨⟨by omega, by omega⟩, c⟩
          ·rintro ⟨⟨a, b⟩, c⟩; exact ⟨by omega, by omega, c⟩
         have HRR := Aside0.mk hr
         clear hr hck
         cases di : ((i : Int) == (l0.length : Int)) with
         | false =>
          go_wp2
          repeat (go_quiet (fail); try go_wp2)
          go_ret
          exact ⟨by rw [HRR.out, di]; rfl, zX HB.out GE.out⟩
         | true =>
          cases dk : ((k : Int) == (te : Int)) with
          | false =>
           go_wp2
           repeat (go_quiet (fail); try go_wp2)
           go_ret
           exact ⟨by rw [HRR.out, di, dk]; rfl, zX HB.out GE.out⟩
          | true =>
           go_wp2
           repeat (go_quiet (fail); try go_wp2)
           go_ret
           exact ⟨by rw [HRR.out, di, dk]; rfl, zX HB.out GE.out⟩
 next => cases h

end Go.Proofs.Ytgaepndbfpfniaa.PFR
