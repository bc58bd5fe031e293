-- PRINTED by print.py (a twelfth state) out of the translation. Not trusted: Lean checks it.
import Derived.Test.YtgaepndbfpfniaaPFRx0
import Derived.Test.YtgaepndbfpfniaaPFRx1
import Derived.Test.YtgaepndbfpfniaaPFRx11
import Derived.RangeFuncNested
import Derived.RangeFuncBound
import Derived.RangeFuncCalls
import Derived.RangeFuncLeaves
import Derived.RangeFuncBox
import Derived.Shelf.Abstract
import Derived.Shelf.RegionOpen
import Derived.OwnWalkIn
import Derived.TacticsInMore
import Derived.LoopNIn
import Derived.LoopIn
import Derived.OneCell
import Derived.BigQuiet
import Derived.Deep.RegionWith
import Derived.Deep.RegionHeld3
import Derived.Deep.RegionLaw
import Derived.IntWalk
import Derived.Lib.SliceRun
import Derived.Deep.RegionLawGrows
namespace Go.Proofs.Ytgaepndbfpfniaa.PFR
open Go.RowKit Go.Proofs.YtgaepndbfpfniaaW.PrintWords Go.Proofs.YtgaepndbfpfniaaW.PrintLast Go.Proofs.YtgaepndbfpfniaaW.PrintMore
attribute [local go_sem] max2_int min2_int max_two min_two max_three min_three max_four min_four   -- for this text's walks alone
set_option linter.unusedVariables false
set_option linter.unusedSimpArgs false

attribute [local go_sem] Oper.semAt_some
open Go.Shelf
-- given by hand: ck1
theorem ck_wrap {n : Int} (h : -1000000 ≤ n ∧ n ≤ 1000000) : wrap64 n = n := by unfold wrap64; omega
def ck (cost : Int) : List Int → List Int → List Int → Int → Bool
 | [], h, p, e => decide (h = [] ∧ p = [] ∧ e = cost)
 | o :: os, h, p, e =>
  if o = 1 then match h, p with
   | x :: h', y :: p' => if x = y then ck cost os h' p' e else false
   | _, _ => false
  else if o = 2 then match h, p with
   | x :: h', y :: p' => if x = y then false else ck cost os h' p' (e + 1)
   | _, _ => false
  else if o = 3 then match h with
   | _ :: h' => ck cost os h' p (e + 1)
   | [] => false
  else if o = 4 then match p with
   | _ :: p' => ck cost os h p' (e + 1)
   | [] => false
  else false
theorem ck_cells {W : World} {gb n c : Nat} {a b d e : Int} {A : Option Addr} (h : W.heap[gb]? = some (.cells #[.int .i64 a, .int .i64 b, .int .i64 d, .int .i64 e, .slice A n c] 25 (0, 0))) : W.cell? ⟨gb, 1, none⟩ = some (.int .i64 b) ∧ W.frozen? ⟨gb, 1, none⟩ = false ∧ W.cell? ⟨gb, 2, none⟩ = some (.int .i64 d) ∧ W.frozen? ⟨gb, 2, none⟩ = false ∧ W.cell? ⟨gb, 3, none⟩ = some (.int .i64 e) ∧ W.frozen? ⟨gb, 3, none⟩ = false ∧ W.cell? ⟨gb, 4, none⟩ = some (.slice A n c) ∧ W.frozen? ⟨gb, 4, none⟩ = false :=
 ⟨(blk_cell h 1).trans rfl, blk_frozen h 1, (blk_cell h 2).trans rfl, blk_frozen h 2, (blk_cell h 3).trans rfl, blk_frozen h 3, (blk_cell h 4).trans rfl, blk_frozen h 4⟩
theorem ck_rd {l : List Int} {j : Nat} (h : j < l.length) : l.drop j = rd l (j : Int) :: l.drop (j + 1) := by
 rw [List.drop_eq_getElem_cons h]
 simp [rd, List.getD_eq_getElem?_getD, h]
def fingerprint_Check.f (k : Nat) (l0 l1 : List Int) (a2_0 a2_1 a2_2 a2_3 : Int) (l2_4 : List Int) : Option Bool :=
 if l0.length ≤ 1000 ∧ l1.length ≤ 1000 ∧ l2_4.length ≤ 1000 then (fingerprint_Heard.f l0).bind fun v => if v = true then (fingerprint_isPrint.f l1).bind fun u => if u = true then if a2_1 < 0 ∨ a2_2 < a2_1 ∨ (l1.length : Int) < a2_2 then some false else some (ck a2_3 l2_4 l0 ((l1.take a2_2.toNat).drop a2_1.toNat) 0) else some false else some false else none
set_option maxRecDepth 100000 in
set_option maxHeartbeats 8000000 in
theorem fingerprint_Check.calls (k : Nat) (A0 : Option Addr) (c0 : Nat) (l0 : List Int) (A1 : Option Addr) (c1 : Nat) (l1 : List Int) (a2_0 a2_1 a2_2 a2_3 : Int) (A2_4 : Option Addr) (c2_4 : Nat) (l2_4 : List Int) (r : Bool) (w : World) (hr0 : Kd.C (Kd.int .i64) w A0 l0.length l0) (hc0 : l0.length ≤ c0) (hr1 : Kd.C (Kd.int .i64) w A1 l1.length l1) (hc1 : l1.length ≤ c1) (hr2 : Kd.C (Kd.int .i64) w A2_4 l2_4.length l2_4) (hc2 : l2_4.length ≤ c2_4) (h : fingerprint_Check.f k l0 l1 a2_0 a2_1 a2_2 a2_3 l2_4 = some r) :
  Calls Try.prog 29 #[.slice A0 l0.length c0, .slice A1 l1.length c1, .agg #[.int .i64 a2_0, .int .i64 a2_1, .int .i64 a2_2, .int .i64 a2_3, .slice A2_4 l2_4.length c2_4]] w fun e w' => e = .returned (.bool r) ∧ Below w.heap.size w w' := by
 unfold fingerprint_Check.f at h
 split at h
 next hl =>
  obtain ⟨hl0, hl1, hl2⟩ := hl
  obtain ⟨v, hv, h⟩ := Option.bind_eq_some_iff.1 h
  have HR0 := Aside0.mk hr0
  have HC0 := Aside0.mk hc0
  have HR1 := Aside0.mk hr1
  have HC1 := Aside0.mk hc1
  have HR2 := Aside0.mk hr2
  have HC2 := Aside0.mk hc2
  have A3 := Aside0.mk hv
  have HL0 := Aside0.mk hl0
  have HL1 := Aside0.mk hl1
  have HL2 := Aside0.mk hl2
  have HB := Aside0.mk (Below.refl w.heap.size w)
  have HH := Aside0.mk h
  clear hr0 hc0 hr1 hc1 hr2 hc2 hv hl0 hl1 hl2 h
  go_enter Try.func29, Try.ntmps29
  go_wp2_with ((with_reducible refine gate_dst (N := 5) rfl ?_); (try (refine gate_guard (by rfl) ?_; dsimp only)); refine box_event ?hg (N := 5) ?hd (cs := #[.int .i64 a2_0, .int .i64 a2_1, .int .i64 a2_2, .int .i64 a2_3, .slice A2_4 l2_4.length c2_4]) (t := 25) ?hr ?_; (case hd => rfl); (case hg => rfl); (case hr => first | (go_simp; done) | (go_simp; rfl)); intro gb hg W1 hbox hb; have n0_ := Aside0.mk (below_step (by exact HB.out) hb); have BK := Aside0.mk hbox; have GE := Aside0.mk (by rw [hg]; exact HB.out.size : w.heap.size ≤ gb); clear HB hb hbox hg; have HB := n0_; clear n0_)
  refine (fingerprint_Heard.calls _ _ l0 v _ (zC (Kd.C_below HR0.out HB.out)) HC0.out A3.out).mono ?_
  rintro e W2 ⟨rfl, hb⟩
  have n2_ := Aside0.mk (blk_below BK.out hb)
  have n3_ := Aside0.mk (below_step HB.out hb)
  clear BK HB hb
  have BK := n2_
  have HB := n3_
  clear n2_ n3_
  obtain ⟨hc1, hf1, hc2, hf2, hc3, hf3, hc4, hf4⟩ := ck_cells BK.out
  have h := HH.out
  clear HH
  cases v with
  | false =>
   obtain rfl := Option.some.inj ((if_neg (by decide)).symm.trans h)
   clear h
   go_wp2
   repeat (go_quiet (fail); try go_wp2)
   go_ret
   exact ⟨rfl, zX HB.out GE.out⟩
  | true =>
   rw [if_pos rfl] at h
   obtain ⟨u, hu, h⟩ := Option.bind_eq_some_iff.1 h
   have A4 := Aside0.mk hu
   have HH := Aside0.mk h
   clear hu h hc1 hf1 hc2 hf2 hc3 hf3 hc4 hf4
   go_wp2_with (fail)
   refine (fingerprint_isPrint.calls _ _ l1 u _ (zC (Kd.C_below HR1.out HB.out)) HC1.out A4.out).mono ?_
   rintro e W3 ⟨rfl, hb⟩
   have n2_ := Aside0.mk (blk_below BK.out hb)
   have n3_ := Aside0.mk (below_step HB.out hb)
   clear BK HB hb
   have BK := n2_
   have HB := n3_
   clear n2_ n3_
   obtain ⟨hc1, hf1, hc2, hf2, hc3, hf3, hc4, hf4⟩ := ck_cells BK.out
   have h := HH.out
   clear HH
   cases u with
   | false =>
    obtain rfl := Option.some.inj ((if_neg (by decide)).symm.trans h)
    clear h
    go_wp2
    repeat (go_quiet (fail); try go_wp2)
    go_ret
    exact ⟨rfl, zX HB.out GE.out⟩
   | true =>
    rw [if_pos rfl] at h
    by_cases c0 : a2_1 < 0
    ·have d0 : decide (a2_1 < 0) = true := decide_eq_true c0
     rw [if_pos (by omega)] at h
     obtain rfl := Option.some.inj h
     clear h
     go_wp2
     repeat (go_quiet (fail); try go_wp2)
     go_ret
     exact ⟨rfl, zX HB.out GE.out⟩
    ·have d0 : decide (a2_1 < 0) = false := decide_eq_false c0
     by_cases c1 : a2_2 < a2_1
     ·have d1 : decide (a2_2 < a2_1) = true := decide_eq_true c1
      rw [if_pos (by omega)] at h
      obtain rfl := Option.some.inj h
      clear h
      go_wp2
      repeat (go_quiet (fail); try go_wp2)
      go_ret
      exact ⟨rfl, zX HB.out GE.out⟩
     ·have d1 : decide (a2_2 < a2_1) = false := decide_eq_false c1
      by_cases c2 : (l1.length : Int) < a2_2
      ·have d2 : decide ((l1.length : Int) < a2_2) = true := decide_eq_true c2
       rw [if_pos (by omega)] at h
       obtain rfl := Option.some.inj h
       clear h
       go_wp2
       repeat (go_quiet (fail); try go_wp2)
       go_ret
       exact ⟨rfl, zX HB.out GE.out⟩
      ·have d2 : decide ((l1.length : Int) < a2_2) = false := decide_eq_false c2
       rw [if_neg (by omega)] at h
       have hck := Option.some.inj h
       have p0 : 0 ≤ a2_1 := by omega
       have p1 : a2_1 ≤ a2_2 := by omega
       have p2 : a2_2 ≤ (l1.length : Int) := by omega
       clear h c0 c1 c2
       obtain ⟨i0, hi0, _, hsz, _⟩ := info_parts info3
       obtain ⟨Ap, hcut, hA, hAl⟩ := print_mid_of (P := Try.prog) (Value.int .i64) 0 22 3 .i64 .i64 Try.underlying22 hi0 hsz A1 c1 l1 a2_1 a2_2 p0 p1 p2 HC1.out
       have HP := Aside0.mk (Kd.C_of_reads (h1 := fun _ => rfl) (hA _ (Kd.reads_of_C HR1.out)))
       obtain ⟨pt, hpt⟩ : ∃ l, (l1.take a2_2.toNat).drop a2_1.toNat = l := ⟨_, rfl⟩
       rw [hpt] at hck hcut hAl HP
       have HPL := Aside0.mk hAl
       have HCK := Aside0.mk hck
       clear hA hpt hAl hi0 hsz p0 p1 p2 hck
       go_wp2
       repeat (go_quiet (fail); try go_wp2)
       go_loopw [0, 7, 8, 49] (fun a b s q wr => ∃ (Ah : Option Addr) (nh ch : Nat) (h : List Int) (Ap : Option Addr) (np cp : Nat) (pt : List Int) (e : Int) (j : Nat), a = .slice Ah nh ch ∧ b = .slice Ap np cp ∧ s = .int .i64 e ∧ q = .int .i64 j ∧ Aside0 (h.length = nh ∧ nh ≤ ch ∧ pt.length = np ∧ np ≤ cp ∧ 0 ≤ e ∧ e ≤ j ∧ j ≤ l2_4.length) ∧ Aside0 (Kd.C (Kd.int .i64) w Ah nh h) ∧ Aside0 (Kd.C (Kd.int .i64) w Ap np pt) ∧ Aside0 (ck a2_3 (l2_4.drop j) h pt e = r) ∧ Aside0 (Below w.heap.size w wr) ∧ Aside0 (wr.heap[gb]? = some (.cells #[.int .i64 a2_0, .int .i64 a2_1, .int .i64 a2_2, .int .i64 a2_3, .slice A2_4 l2_4.length c2_4] 25 (0, 0)))) (fun _ _ _ q _ => l2_4.length - (intOf q).toNat)
       case atStart => exact ⟨A0, _, c0, l0, _, _, _, pt, 0, 0, rfl, rfl, rfl, rfl, ⟨rfl, HC0.out, rfl, HPL.out, by omega, by omega, Nat.zero_le _⟩, HR0, HP, HCK, ⟨zX HB.out GE.out⟩, ⟨zB BK.out⟩⟩
       case round =>
        clear HB BK HCK HP HPL A3 A4 hcut
        obtain ⟨Ah, nh, ch, h, Ap, np, cp, pt, e, j, rfl, rfl, rfl, rfl, HN, HH, HP, HCK, HB, BK⟩ := hrel
        by_cases hj : j < l2_4.length
        ·have j0 : (0 : Int) ≤ (j : Int) := by omega
         have j1 : (j : Int) < (l2_4.length : Int) := by omega
         obtain ⟨ao, eo, hoc⟩ := Kd.at_int HR2.out (j : Int) j0 j1
         subst eo
         rw [Int.toNat_natCast] at hoc
         replace hoc := (HB.out.cell (World.block_lt_of_cell? w _ hoc)).trans hoc
         have hck := HCK.out
         rw [ck_rd hj] at hck
         obtain ⟨op, hop⟩ : ∃ v, rd l2_4 (j : Int) = v := ⟨_, rfl⟩
         rw [hop] at hck hoc
         replace HCK := Aside0.mk hck
         have HJ := Aside0.mk hj
         clear hck hop hj
         have wj : IntKind.i64.wrap ((j : Int) + 1) = (j : Int) + 1 := by rw [i64_w]; exact ck_wrap ⟨by omega, by have := HL2.out; omega⟩
         have we : IntKind.i64.wrap (e + 1) = e + 1 := by rw [i64_w]; have := HN.out; exact ck_wrap ⟨by omega, by have := HL2.out; omega⟩
         by_cases o1 : op < 1
         ·have d1 : decide (op < 1) = true := decide_eq_true o1
          obtain rfl : false = r := by rw [← HCK.out]; unfold ck; rw [if_neg (by omega), if_neg (by omega), if_neg (by omega), if_neg (by omega)]
          clear o1
          go_wp2
          repeat (go_quiet (fail); try go_wp2)
          go_ret
          exact ⟨rfl, zX HB.out GE.out⟩
         ·have d1 : decide (op < 1) = false := decide_eq_false o1
          by_cases o2 : 4 < op
          ·have d2 : decide (4 < op) = true := decide_eq_true o2
           obtain rfl : false = r := by rw [← HCK.out]; unfold ck; rw [if_neg (by omega), if_neg (by omega), if_neg (by omega), if_neg (by omega)]
           clear o1 o2
           go_wp2
           repeat (go_quiet (fail); try go_wp2)
           go_ret
           exact ⟨rfl, zX HB.out GE.out⟩
          ·have d2 : decide (4 < op) = false := decide_eq_false o2
           have oo : op = 1 ∨ op = 2 ∨ op = 3 ∨ op = 4 := by omega
           clear d1 d2 o1 o2
           rcases oo with rfl | rfl | rfl | rfl
           ·cases h with
            | nil =>
             obtain rfl : nh = 0 := by have := HN.out.1; simpa using this.symm
             obtain rfl : false = r := by rw [← HCK.out]; simp [ck]
             go_wp2
             repeat (go_quiet (fail); try go_wp2)
             go_ret
             exact ⟨rfl, zX HB.out GE.out⟩
            | cons x h =>
             obtain ⟨n, rfl⟩ : ∃ n, nh = n + 1 := ⟨h.length, by have := HN.out.1; simp at this; omega⟩
             obtain ⟨Ah', hcuth, hch⟩ := fp_tail Ah ch n x h (by have := HN.out.1; simp at this; omega) HN.out.2.1
             have hz : (((n : Int) + 1) == 0) = false := beq_eq_false_iff_ne.2 (by omega)
             have hp0 : (0 : Int) < (n : Int) + 1 := by omega
             have HHT := Aside0.mk (hch w HH.out)
             clear hch
             cases pt with
             | nil =>
              obtain rfl : np = 0 := by have := HN.out.2.2.1; simpa using this.symm
              obtain rfl : false = r := by rw [← HCK.out]; simp [ck]
              go_wp2
              repeat (go_quiet (fail); try go_wp2)
              go_ret
              exact ⟨rfl, zX HB.out GE.out⟩
             | cons y pt =>
              obtain ⟨m, rfl⟩ : ∃ n, np = n + 1 := ⟨pt.length, by have := HN.out.2.2.1; simp at this; omega⟩
              obtain ⟨Ap', hcutp, hcp⟩ := fp_tail Ap cp m y pt (by have := HN.out.2.2.1; simp at this; omega) HN.out.2.2.2.1
              have pz : (((m : Int) + 1) == 0) = false := beq_eq_false_iff_ne.2 (by omega)
              have pp0 : (0 : Int) < (m : Int) + 1 := by omega
              have HPT := Aside0.mk (hcp w HP.out)
              clear hcp
              obtain ⟨a0, ea0, hxc⟩ := Kd.at_int HH.out 0 (Int.le_refl 0) hp0
              subst ea0
              obtain ⟨b0, eb0, hyc⟩ := Kd.at_int HP.out 0 (Int.le_refl 0) pp0
              subst eb0
              replace hxc := (HB.out.cell (World.block_lt_of_cell? w _ hxc)).trans hxc
              replace hyc := (HB.out.cell (World.block_lt_of_cell? w _ hyc)).trans hyc
              rw [show ((0 : Int)).toNat = 0 from rfl, Addr.add_zero'] at hxc hyc
              replace hxc : wr.cell? a0 = some (.int .i64 x) := hxc
              replace hyc : wr.cell? b0 = some (.int .i64 y) := hyc
              by_cases xy : x = y
              ·subst xy
               replace HCK := Aside0.mk (show ck a2_3 (l2_4.drop (j + 1)) h pt e = r by have := HCK.out; simpa [ck] using this)
               go_wp2
               repeat (go_quiet (fail); try go_wp2)
               go_roundw
               case rel => exact ⟨Ah', n, ch - 1, h, Ap', m, cp - 1, pt, e, j + 1, rfl, rfl, rfl, by go_num, ⟨by have := HN.out.1; simp at this; omega, by have := HN.out.2.1; omega, by have := HN.out.2.2.1; simp at this; omega, by have := HN.out.2.2.2.1; omega, by have := HN.out; omega, by have := HN.out; omega, HJ.out⟩, HHT, HPT, HCK, ⟨zX HB.out GE.out⟩, ⟨zB BK.out⟩⟩
               case measure => simp [intOf]; have := HJ.out; omega
              ·have dxy : (x == y) = false := beq_eq_false_iff_ne.2 xy
               obtain rfl : false = r := by rw [← HCK.out]; simp [ck, xy]
               clear xy
               go_wp2
               repeat (go_quiet (fail); try go_wp2)
               go_ret
               exact ⟨rfl, zX HB.out GE.out⟩
           ·cases h with
            | nil =>
             obtain rfl : nh = 0 := by have := HN.out.1; simpa using this.symm
             obtain rfl : false = r := by rw [← HCK.out]; simp [ck]
             go_wp2
             repeat (go_quiet (fail); try go_wp2)
             go_ret
             exact ⟨rfl, zX HB.out GE.out⟩
            | cons x h =>
             obtain ⟨n, rfl⟩ : ∃ n, nh = n + 1 := ⟨h.length, by have := HN.out.1; simp at this; omega⟩
             obtain ⟨Ah', hcuth, hch⟩ := fp_tail Ah ch n x h (by have := HN.out.1; simp at this; omega) HN.out.2.1
             have hz : (((n : Int) + 1) == 0) = false := beq_eq_false_iff_ne.2 (by omega)
             have hp0 : (0 : Int) < (n : Int) + 1 := by omega
             have HHT := Aside0.mk (hch w HH.out)
             clear hch
             cases pt with
             | nil =>
              obtain rfl : np = 0 := by have := HN.out.2.2.1; simpa using this.symm
              obtain rfl : false = r := by rw [← HCK.out]; simp [ck]
              go_wp2
              repeat (go_quiet (fail); try go_wp2)
              go_ret
              exact ⟨rfl, zX HB.out GE.out⟩
             | cons y pt =>
              obtain ⟨m, rfl⟩ : ∃ n, np = n + 1 := ⟨pt.length, by have := HN.out.2.2.1; simp at this; omega⟩
              obtain ⟨Ap', hcutp, hcp⟩ := fp_tail Ap cp m y pt (by have := HN.out.2.2.1; simp at this; omega) HN.out.2.2.2.1
              have pz : (((m : Int) + 1) == 0) = false := beq_eq_false_iff_ne.2 (by omega)
              have pp0 : (0 : Int) < (m : Int) + 1 := by omega
              have HPT := Aside0.mk (hcp w HP.out)
              clear hcp
              obtain ⟨a0, ea0, hxc⟩ := Kd.at_int HH.out 0 (Int.le_refl 0) hp0
              subst ea0
              obtain ⟨b0, eb0, hyc⟩ := Kd.at_int HP.out 0 (Int.le_refl 0) pp0
              subst eb0
              replace hxc := (HB.out.cell (World.block_lt_of_cell? w _ hxc)).trans hxc
              replace hyc := (HB.out.cell (World.block_lt_of_cell? w _ hyc)).trans hyc
              rw [show ((0 : Int)).toNat = 0 from rfl, Addr.add_zero'] at hxc hyc
              replace hxc : wr.cell? a0 = some (.int .i64 x) := hxc
              replace hyc : wr.cell? b0 = some (.int .i64 y) := hyc
              by_cases xy : x = y
              ·subst xy
               obtain rfl : false = r := by rw [← HCK.out]; simp [ck]
               go_wp2
               repeat (go_quiet (fail); try go_wp2)
               go_ret
               exact ⟨rfl, zX HB.out GE.out⟩
              ·have dxy : (x == y) = false := beq_eq_false_iff_ne.2 xy
               replace HCK := Aside0.mk (show ck a2_3 (l2_4.drop (j + 1)) h pt (e + 1) = r by have := HCK.out; simpa [ck, xy] using this)
               clear xy
               go_wp2
               repeat (go_quiet (fail); try go_wp2)
               go_roundw
               case rel => exact ⟨Ah', n, ch - 1, h, Ap', m, cp - 1, pt, e + 1, j + 1, rfl, rfl, rfl, by go_num, ⟨by have := HN.out.1; simp at this; omega, by have := HN.out.2.1; omega, by have := HN.out.2.2.1; simp at this; omega, by have := HN.out.2.2.2.1; omega, by have := HN.out; omega, by have := HN.out; omega, HJ.out⟩, HHT, HPT, HCK, ⟨zX HB.out GE.out⟩, ⟨zB BK.out⟩⟩
               case measure => simp [intOf]; have := HJ.out; omega
           ·cases h with
            | nil =>
             obtain rfl : nh = 0 := by have := HN.out.1; simpa using this.symm
             obtain rfl : false = r := by rw [← HCK.out]; simp [ck]
             go_wp2
             repeat (go_quiet (fail); try go_wp2)
             go_ret
             exact ⟨rfl, zX HB.out GE.out⟩
            | cons x h =>
             obtain ⟨n, rfl⟩ : ∃ n, nh = n + 1 := ⟨h.length, by have := HN.out.1; simp at this; omega⟩
             obtain ⟨Ah', hcuth, hch⟩ := fp_tail Ah ch n x h (by have := HN.out.1; simp at this; omega) HN.out.2.1
             have hz : (((n : Int) + 1) == 0) = false := beq_eq_false_iff_ne.2 (by omega)
             have hp0 : (0 : Int) < (n : Int) + 1 := by omega
             have HHT := Aside0.mk (hch w HH.out)
             clear hch
             replace HCK := Aside0.mk (show ck a2_3 (l2_4.drop (j + 1)) h pt (e + 1) = r by have := HCK.out; simpa [ck] using this)
             go_wp2
             repeat (go_quiet (fail); try go_wp2)
             go_roundw
             case rel => exact ⟨Ah', n, ch - 1, h, _, _, _, _, e + 1, j + 1, rfl, rfl, rfl, by go_num, ⟨by have := HN.out.1; simp at this; omega, by have := HN.out.2.1; omega, HN.out.2.2.1, HN.out.2.2.2.1, by have := HN.out; omega, by have := HN.out; omega, HJ.out⟩, HHT, HP, HCK, ⟨zX HB.out GE.out⟩, ⟨zB BK.out⟩⟩
             case measure => simp [intOf]; have := HJ.out; omega
           ·cases pt with
            | nil =>
             obtain rfl : np = 0 := by have := HN.out.2.2.1; simpa using this.symm
             obtain rfl : false = r := by rw [← HCK.out]; simp [ck]
             go_wp2
             repeat (go_quiet (fail); try go_wp2)
             go_ret
             exact ⟨rfl, zX HB.out GE.out⟩
            | cons y pt =>
             obtain ⟨m, rfl⟩ : ∃ n, np = n + 1 := ⟨pt.length, by have := HN.out.2.2.1; simp at this; omega⟩
             obtain ⟨Ap', hcutp, hcp⟩ := fp_tail Ap cp m y pt (by have := HN.out.2.2.1; simp at this; omega) HN.out.2.2.2.1
             have pz : (((m : Int) + 1) == 0) = false := beq_eq_false_iff_ne.2 (by omega)
             have pp0 : (0 : Int) < (m : Int) + 1 := by omega
             have HPT := Aside0.mk (hcp w HP.out)
             clear hcp
             replace HCK := Aside0.mk (show ck a2_3 (l2_4.drop (j + 1)) h pt (e + 1) = r by have := HCK.out; simpa [ck] using this)
             go_wp2
             repeat (go_quiet (fail); try go_wp2)
             go_roundw
             case rel => exact ⟨_, _, _, _, Ap', m, cp - 1, pt, e + 1, j + 1, rfl, rfl, rfl, by go_num, ⟨HN.out.1, HN.out.2.1, by have := HN.out.2.2.1; simp at this; omega, by have := HN.out.2.2.2.1; omega, by have := HN.out; omega, by have := HN.out; omega, HJ.out⟩, HH, HPT, HCK, ⟨zX HB.out GE.out⟩, ⟨zB BK.out⟩⟩
             case measure => simp [intOf]; have := HJ.out; omega
        ·have hck := HCK.out
         rw [List.drop_eq_nil_of_le (by omega)] at hck
         have dj : decide ((j : Int) < (l2_4.length : Int)) = false := decide_eq_false (by omega)
         obtain ⟨hc1, hf1, hc2, hf2, hc3, hf3, hc4, hf4⟩ := ck_cells BK.out
         cases h with
         | nil =>
          obtain rfl : nh = 0 := by have := HN.out.1; simpa using this.symm
          cases pt with
          | nil =>
           obtain rfl : np = 0 := by have := HN.out.2.2.1; simpa using this.symm
           have hr : r = (e == a2_3) := by rw [← hck]; simp only [ck, true_and]; rw [Bool.eq_iff_iff]; simp
           have HRR := Aside0.mk hr
           clear hr hck
           go_wp2
           repeat (go_quiet (fail); try go_wp2)
           go_ret
           exact ⟨by rw [HRR.out]; rfl, zX HB.out GE.out⟩
          | cons y pt =>
           obtain ⟨m, rfl⟩ : ∃ n, np = n + 1 := ⟨pt.length, by have := HN.out.2.2.1; simp at this; omega⟩
           obtain ⟨Ap', hcutp, hcp⟩ := fp_tail Ap cp m y pt (by have := HN.out.2.2.1; simp at this; omega) HN.out.2.2.2.1
           have pz : (((m : Int) + 1) == 0) = false := beq_eq_false_iff_ne.2 (by omega)
           have pp0 : (0 : Int) < (m : Int) + 1 := by omega
           have HPT := Aside0.mk (hcp w HP.out)
           clear hcp
           obtain rfl : false = r := by rw [← hck]; simp [ck]
           clear hck
           go_wp2
           repeat (go_quiet (fail); try go_wp2)
           go_ret
           exact ⟨rfl, zX HB.out GE.out⟩
         | cons x h =>
          obtain ⟨n, rfl⟩ : ∃ n, nh = n + 1 := ⟨h.length, by have := HN.out.1; simp at this; omega⟩
          obtain ⟨Ah', hcuth, hch⟩ := fp_tail Ah ch n x h (by have := HN.out.1; simp at this; omega) HN.out.2.1
          have hz : (((n : Int) + 1) == 0) = false := beq_eq_false_iff_ne.2 (by omega)
          have hp0 : (0 : Int) < (n : Int) + 1 := by omega
          have HHT := Aside0.mk (hch w HH.out)
          clear hch
          obtain rfl : false = r := by rw [← hck]; simp [ck]
          clear hck
          go_wp2
          repeat (go_quiet (fail); try go_wp2)
          go_ret
          exact ⟨rfl, zX HB.out GE.out⟩
 next => cases h

end Go.Proofs.Ytgaepndbfpfniaa.PFR
