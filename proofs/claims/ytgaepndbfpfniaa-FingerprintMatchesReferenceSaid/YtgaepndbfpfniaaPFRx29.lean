-- PRINTED by print.py (a twelfth state) out of the translation. Not trusted: Lean checks it.
import Derived.Test.YtgaepndbfpfniaaPFRx0
import Derived.Test.YtgaepndbfpfniaaPFRx13
import Derived.Test.YtgaepndbfpfniaaPFRx24
import Derived.Test.YtgaepndbfpfniaaPFRx27
import Derived.Test.YtgaepndbfpfniaaPFRx28
namespace Go.Proofs.Ytgaepndbfpfniaa.PFR
open Go.RowKit Go.Proofs.YtgaepndbfpfniaaW.PrintWords Go.Proofs.YtgaepndbfpfniaaW.PrintLast Go.Proofs.YtgaepndbfpfniaaW.PrintMore
attribute [local go_sem] max2_int min2_int max_two min_two max_three min_three max_four min_four   -- for this text's walks alone
set_option linter.unusedVariables false
set_option linter.unusedSimpArgs false

/-! ### aircheckref36_Align: function 24 -/
mutual
def aircheckref36_Align.l0 : Nat → List Int → List Int → Int → Int → Option (Int × Int × Int × Int × List Int × Int)
 | 0, _, _, _, _ => none
 | k + 1, x0, x1, x6, x8 => if x8 ≤ (x1.length : Int) then (aircheckref36_Align.l1 k x0 x1 x6 x8 x8) else (some (0, 0, 0, 0, ([] : List Int), 360))
def aircheckref36_Align.l1 : Nat → List Int → List Int → Int → Int → Int → Option (Int × Int × Int × Int × List Int × Int)
 | 0, _, _, _, _, _ => none
 | k + 1, x0, x1, x6, x8, x9 => if x9 ≤ (x1.length : Int) then (if 0 ≤ x8 then (if x8 ≤ x9 then ((aircheckref36_rest.f k x0 ((x1.take (x9 : Int).toNat).drop (x8 : Int).toNat)).bind fun t273 => (if 0 < (t273.length : Int) then (if 0 < ((rd_L1 t273 0).length : Int) then (if (rd (rd_L1 t273 0) 0) = x6 then ((aircheckref36_ops.f k x0 ((x1.take (x9 : Int).toNat).drop (x8 : Int).toNat)).bind fun t279 => (some (0, x8, x9, x6, t279, 0))) else (aircheckref36_Align.l1 k x0 x1 x6 x8 (wrap64 (x9 + 1)))) else (none)) else (none))) else (none)) else (none)) else (aircheckref36_Align.l0 k x0 x1 x6 (wrap64 (x8 + 1)))
end
def aircheckref36_Align.f (k : Nat) (l0 : List Int) (l1 : List Int) : Option (Int × Int × Int × Int × List Int × Int) := (aircheckref36_Cost.f k l0 l1).bind fun bt270 => (if bt270.2 = 0 then (aircheckref36_Align.l0 k l0 l1 bt270.1 0) else (some (0, 0, 0, 0, ([] : List Int), bt270.2)))
set_option maxHeartbeats 8000000 in
set_option maxRecDepth 100000 in
theorem aircheckref36_Align.calls (k : Nat) (A0 : Option Addr) (c0 : Nat) (l0 : List Int) (A1 : Option Addr) (c1 : Nat) (l1 : List Int) (r1 : Int) (r2 : Int) (r3 : Int) (r4 : Int) (r5 : List Int) (r6 : Int) (w : World) (hr0 : Kd.C (Kd.int .i64) w A0 l0.length l0) (hc0 : l0.length ≤ c0) (hr1 : Kd.C (Kd.int .i64) w A1 l1.length l1) (hc1 : l1.length ≤ c1) (h : aircheckref36_Align.f k l0 l1 = some (r1, r2, r3, r4, r5, r6)) :
  Calls Try.prog 24 #[.slice A0 l0.length c0, .slice A1 l1.length c1] w fun e w' => ∃ v4_ : Value, e = .returned (.tuple #[.agg #[.int .i64 r1, .int .i64 r2, .int .i64 r3, .int .i64 r4, v4_], .int .i64 r6]) ∧ Kd.R (Kd.int .i64) 3 w' w.heap.size (fun _ => True) v4_ r5 ∧ Below w.heap.size w w' := by
 have hu25 := Try.underlying25
 have HR0 := Aside0.mk hr0
 have HC0 := Aside0.mk hc0
 clear hr0 hc0
 have HR1 := Aside0.mk hr1
 have HC1 := Aside0.mk hc1
 clear hr1 hc1
 have HB := Aside0.mk (Below.refl w.heap.size w)
 have H : ((aircheckref36_Cost.f k l0 l1).bind fun bt270 => (if bt270.2 = 0 then (aircheckref36_Align.l0 k l0 l1 bt270.1 0) else (some (0, 0, 0, 0, ([] : List Int), bt270.2)))) = some (r1, r2, r3, r4, r5, r6) := h
 clear h
 replace H := Option.bind_eq_some_iff.mp H
 obtain ⟨⟨t270, t271⟩, A30, H⟩ := H
 replace H : (if t271 = 0 then (aircheckref36_Align.l0 k l0 l1 t270 0) else (some (0, 0, 0, 0, ([] : List Int), t271))) = some (r1, r2, r3, r4, r5, r6) := H
 have A3 := Aside0.mk A30
 clear A30
 by_cases c4 : t271 = 0
 ·rw [if_pos c4] at H
  have c4b0 : (t271 == 0) = true := beq_iff_eq.mpr c4
  have c4b1 : (t271 != 0) = false := bne_eq_false_iff_eq.mpr c4
  clear c4
  have H' := Aside0.mk H
  clear H
  go_enter Try.func24, Try.ntmps24
  go_wp2_with (first | ((with_reducible refine gate_dst (N := 4) rfl ?_); refine box_event ?hg (N := 4) ?hd (cs := #[.int .i64 0, .int .i64 0, .int .i64 0, .int .i64 0, .slice none 0 0]) (t := 25) ?hr ?_; (case hd => rfl); (case hg => rfl); (case hr => first | (go_simp; done) | (go_simp; rfl)); intro gb269 hg w5 hbox hb; have n0_ := Aside0.mk (below_step (zW HB.out) hb); have n1_ := Aside0.mk (hbox); have n2_ := Aside0.mk ((by rw [hg]; exact (below_size (zW HB.out)) : w.heap.size ≤ gb269)); have n3_ := Aside0.mk ((by rw [hg]; exact (below_size (zW HB.out)) : w.heap.size ≤ gb269)); clear HB; have HB := n0_; have BK269 := n1_; have GW269 := n2_; have GE269 := n3_; clear n0_ n1_ n2_ n3_; clear hb hbox hg) | ((with_reducible refine gate_callee (f := 22) rfl ?_); refine goesL_ (some 13) rfl rfl Try.func22 (by kernel_rfl) rfl #[.slice A0 l0.length c0, .slice A1 l1.length c1] rfl (by (try simp only [List.map_toArray, List.map_cons, List.map_nil]); first | done | rfl | (simp only [List.length_drop, List.length_take]; rfl)) ?_; (with_reducible refine (aircheckref36_Cost.calls k _ _ l0 _ _ l1 t270 t271 _ ?side1 ?side2 ?side3 ?side4 A3.out).mono ?_); (case side1 => exact zC (Kd.C_below HR0.out HB.out)); (case side2 => exact HC0.out); (case side3 => exact zC (Kd.C_below HR1.out HB.out)); (case side4 => exact HC1.out); rintro e w6 ⟨rfl, hb⟩; refine ⟨_, rfl, ?_⟩; have n0_ := Aside0.mk (blk_below (g := gb269) (o := .cells #[.int .i64 0, .int .i64 0, .int .i64 0, .int .i64 0, .slice none 0 0] 25 (0, 0)) (zB BK269.out) hb); have n1_ := Aside0.mk (below_step (zX HB.out GE269.out) hb); clear BK269; clear HB; have BK269 := n0_; have HB := n1_; clear n0_ n1_; (try clear hb); (try clear hb2); (try clear hk); (try clear hi)))
  go_loopg [8] k (fun kq v8 w' => ∃ (x8_1 : Int) (x270000_1 : Int) (x270001_1 : Int) (x270002_1 : Int) (x270003_1 : Int), v8 = .int .i64 x8_1 ∧ Aside0 (aircheckref36_Align.l0 kq l0 l1 t270 x8_1 = some (r1, r2, r3, r4, r5, r6)) ∧ Aside0 (kq ≤ k) ∧ Aside0 (w'.heap[gb269]? = some (.cells #[.int .i64 x270000_1, .int .i64 x270001_1, .int .i64 x270002_1, .int .i64 x270003_1, (.slice none 0 0)] 25 (0, 0))) ∧ Aside0 (Below w.heap.size w w'))
  case atStart => exact ⟨(0), (0), (0), (0), (0), zE, H', ⟨Nat.le_refl _⟩, ⟨zB BK269.out⟩, ⟨zX HB.out GE269.out⟩⟩
  case round =>
   clear H'
   (try clear c1); (try clear c2); (try clear p2); (try clear c4); (try clear c4b0); (try clear c4b1)
   obtain ⟨x8_1, x270000_1, x270001_1, x270002_1, x270003_1, rfl, HA, HK1, BK269, HB⟩ := hrel
   cases gk with
   | zero => exact absurd HA.out (by simp [aircheckref36_Align.l0])
   | succ k1 =>
    have H := HA.out
    clear HA
    simp only [aircheckref36_Align.l0] at H
    by_cases c7 : x8_1 ≤ (l1.length : Int)
    ·rw [if_pos c7] at H
     have c7b0 : decide (x8_1 ≤ (l1.length : Int)) = true := decide_eq_true c7
     clear c7
     have H' := Aside0.mk H
     clear H
     go_wp2
     go_loopg [9] k1 (fun kq v9 w' => ∃ (x9_2 : Int) (x270000_2 : Int) (x270001_2 : Int) (x270002_2 : Int) (x270003_2 : Int), v9 = .int .i64 x9_2 ∧ Aside0 (aircheckref36_Align.l1 kq l0 l1 t270 x8_1 x9_2 = some (r1, r2, r3, r4, r5, r6)) ∧ Aside0 (kq ≤ k1) ∧ Aside0 (w'.heap[gb269]? = some (.cells #[.int .i64 x270000_2, .int .i64 x270001_2, .int .i64 x270002_2, .int .i64 x270003_2, (.slice none 0 0)] 25 (0, 0))) ∧ Aside0 (Below w.heap.size w w'))
     case atStart => exact ⟨(x8_1), (x270000_1), (x270001_1), (x270002_1), (x270003_1), zE, H', ⟨Nat.le_refl _⟩, ⟨zB BK269.out⟩, ⟨zX HB.out GE269.out⟩⟩
     case round =>
      clear H'
      (try clear c1); (try clear c2); (try clear p2); (try clear c4); (try clear c4b0); (try clear c4b1); (try clear c7); (try clear c7b0)
      obtain ⟨x9_2, x270000_2, x270001_2, x270002_2, x270003_2, rfl, HA, HK2, BK269, HB⟩ := hrel
      cases gk with
      | zero => exact absurd HA.out (by simp [aircheckref36_Align.l1])
      | succ k2 =>
       have H := HA.out
       clear HA
       simp only [aircheckref36_Align.l1] at H
       by_cases c8 : x9_2 ≤ (l1.length : Int)
       ·rw [if_pos c8] at H
        have c8b0 : decide (x9_2 ≤ (l1.length : Int)) = true := decide_eq_true c8
        clear c8
        by_cases c9 : 0 ≤ x8_1
        ·rw [if_pos c9] at H
         have c9b0 := eq_true c9
         have c9b1 : decide (0 ≤ x8_1) = true := decide_eq_true c9
         clear c9
         by_cases c10 : x8_1 ≤ x9_2
         ·rw [if_pos c10] at H
          have c10b0 := eq_true c10
          have c10b1 : decide (x8_1 ≤ x9_2) = true := decide_eq_true c10
          clear c10
          have c11b0 := eq_true (of_decide_eq_true zA : x9_2 ≤ (l1.length : Int))
          replace H := Option.bind_eq_some_iff.mp H
          obtain ⟨t273, A120, H⟩ := H
          have A12 := Aside0.mk A120
          clear A120
          by_cases c13 : 0 < (t273.length : Int)
          ·rw [if_pos c13] at H
           have c13b0 : decide (0 < (t273.length : Int)) = true := decide_eq_true c13
           have c13b1 : decide (0 < t273.length) = true := decide_eq_true (by omega)
           clear c13
           by_cases c14 : 0 < ((rd_L1 t273 0).length : Int)
           ·rw [if_pos c14] at H
            have c14b0 : decide (0 < ((rd_L1 t273 0).length : Int)) = true := decide_eq_true c14
            have c14b1 : decide (0 < (rd_L1 t273 0).length) = true := decide_eq_true (by omega)
            clear c14
            by_cases c15 : (rd (rd_L1 t273 0) 0) = t270
            ·rw [if_pos c15] at H
             have c15b0 : ((rd (rd_L1 t273 0) 0) == t270) = true := beq_iff_eq.mpr c15
             have c15b1 : ((rd (rd_L1 t273 0) 0) != t270) = false := bne_eq_false_iff_eq.mpr c15
             clear c15
             have c16b0 := eq_true (of_decide_eq_true zA : 0 ≤ x8_1)
             have c17b0 := eq_true (of_decide_eq_true zA : x8_1 ≤ x9_2)
             have c18b0 := eq_true (of_decide_eq_true zA : x9_2 ≤ (l1.length : Int))
             replace H := Option.bind_eq_some_iff.mp H
             obtain ⟨t279, A190, H⟩ := H
             have A19 := Aside0.mk A190
             clear A190
             simp only [Option.some.injEq, Prod.mk.injEq] at H
             obtain ⟨rfl, rfl, rfl, rfl, rfl, rfl⟩ := H
             obtain ⟨i020, hi020, _, hsz20, _⟩ := info_parts info3
             obtain ⟨A20, hcut20, hA20, hC20⟩ := print_mid_of (P := Try.prog) (Value.int .i64) 0 22 3 .i64 .i64 Try.underlying22 hi020 hsz20 A1 c1 l1 x8_1 x9_2 (of_decide_eq_true zA) (by first | omega | exact of_decide_eq_true zA) (of_decide_eq_true zA) HC1.out
             have HR272 := Aside0.mk (Kd.C_of_reads (h1 := fun _ => rfl) (hA20 _ (Kd.reads_of_C HR1.out)))
             have HC272 := Aside0.mk hC20
             clear hA20 hC20 hi020 hsz20
             go_wp2_with (first | ((with_reducible refine gate_callee (f := 44) rfl ?_); refine goesL_ (some 38) rfl rfl Try.func44 (by kernel_rfl) rfl #[.slice A0 l0.length c0, .slice A20 ((l1.take (x9_2 : Int).toNat).drop (x8_1 : Int).toNat).length (c1 - x8_1.toNat)] rfl (by (try simp only [List.map_toArray, List.map_cons, List.map_nil]); first | done | (rw [show ((l1.take (x9_2 : Int).toNat).drop (x8_1 : Int).toNat).length = (x9_2.toNat - x8_1.toNat) from (by rw [List.length_drop, List.length_take]; have h_ : (x9_2 : Int) ≤ (l1.length : Int) := of_decide_eq_true zA; omega)] <;> rfl) | rfl | (simp only [List.length_drop, List.length_take]; rfl)) ?_; (with_reducible refine (aircheckref36_rest.calls k2 _ _ l0 _ _ ((l1.take (x9_2 : Int).toNat).drop (x8_1 : Int).toNat) t273 _ ?side1 ?side2 ?side3 ?side4 A12.out).mono ?_); (case side1 => exact zC (Kd.C_below HR0.out HB.out)); (case side2 => exact HC0.out); (case side3 => exact zC (Kd.C_below HR272.out HB.out)); (case side4 => exact HC272.out); rintro e w21 ⟨v274, rfl, ho0, hb⟩; refine ⟨_, rfl, ?_⟩; have n0_ := Aside0.mk (Kd.S_lower ho0 (below_size (zX HB.out GE269.out))); have n1_ := Aside0.mk (blk_below (g := gb269) (o := .cells #[.int .i64 x270000_2, .int .i64 x270001_2, .int .i64 x270002_2, .int .i64 x270003_2, .slice none 0 0] 25 (0, 0)) (zB BK269.out) hb); have n2_ := Aside0.mk (below_step (zX HB.out GE269.out) hb); clear BK269; clear HB; have HO275 := n0_; have BK269 := n1_; have HB := n2_; clear n0_ n1_ n2_; (try clear hb); (try clear hb2); (try clear hk); (try clear hi); (try clear ho0); obtain ⟨Ao22, co22, eo22⟩ := Kd.S_slice HO275.out; subst eo22; have p276 : 0 ≤ (0 : Int) := (by omega); have q276 : 0 < (t273.length : Int) := of_decide_eq_true zA; obtain ⟨ad276, A276_0, c276_0, e276, hx276_0, hl276_0, hi276_0⟩ := at_L1 (Kd.S_reads' HO275.out).2.2 0 p276 q276; cases e276; obtain ⟨ce276, hce276, hMe276, hcc276⟩ := Kd.S_get HO275.out [] 0 p276 (by first | exact q276 | exact of_decide_eq_true zA | (have e_ := (Kd.S_reads' HO275.out).1; omega)); obtain ⟨ve276_0, rfl, ge276_0⟩ := hMe276; have hv276_0 := hcc276 0 _ rfl; rw [Nat.add_zero, show ((Kd.slice 3 (Kd.int .i64))).sz = 1 from rfl, Nat.mul_one] at hv276_0; replace hv276_0 := Option.some.inj (hv276_0.symm.trans hx276_0); rw [hv276_0] at ge276_0; have HL276_0 := Aside0.mk (show Kd.R (Kd.int .i64) 3 _ _ _ _ (rd_L1 t273 0) from ge276_0); clear hv276_0 ge276_0; clear hcc276 hce276; have qi276 : (0 < t273.length) = True := eq_true (by omega); (try rw [show ((0 : Int)).toNat = 0 from rfl] at hx276_0); (try rw [Addr.add_zero'] at hx276_0); have HR276_0 := Aside0.mk hi276_0; have HC276_0 := Aside0.mk hl276_0; clear hi276_0 hl276_0; replace p276 := eq_true p276; replace q276 := eq_true q276; have p277 : 0 ≤ (0 : Int) := (by omega); have q277 : 0 < ((rd_L1 t273 0).length : Int) := of_decide_eq_true zA; obtain ⟨ad277, e277, hx277_0⟩ := Kd.at_int (zC HR276_0.out) 0 p277 q277; cases e277; have qi277 : (0 < (rd_L1 t273 0).length) = True := eq_true (by omega); (try rw [show ((0 : Int)).toNat = 0 from rfl] at hx277_0); (try rw [Addr.add_zero'] at hx277_0); replace p277 := eq_true p277; replace q277 := eq_true q277; have HR278 := HR272; have HC278 := HC272) | ((with_reducible refine gate_callee (f := 49) rfl ?_); refine goesL_ (some 53) rfl rfl Try.func49 (by kernel_rfl) rfl #[.slice A0 l0.length c0, .slice A20 ((l1.take (x9_2 : Int).toNat).drop (x8_1 : Int).toNat).length (c1 - x8_1.toNat)] rfl (by (try simp only [List.map_toArray, List.map_cons, List.map_nil]); first | done | (rw [show ((l1.take (x9_2 : Int).toNat).drop (x8_1 : Int).toNat).length = (x9_2.toNat - x8_1.toNat) from (by rw [List.length_drop, List.length_take]; have h_ : (x9_2 : Int) ≤ (l1.length : Int) := of_decide_eq_true zA; omega)] <;> rfl) | rfl | (simp only [List.length_drop, List.length_take]; rfl)) ?_; (with_reducible refine (aircheckref36_ops.calls k2 _ _ l0 _ _ ((l1.take (x9_2 : Int).toNat).drop (x8_1 : Int).toNat) t279 _ ?side1 ?side2 ?side3 ?side4 A19.out).mono ?_); (case side1 => exact zC (Kd.C_below HR0.out HB.out)); (case side2 => exact HC0.out); (case side3 => exact zC (Kd.C_below HR278.out HB.out)); (case side4 => exact HC278.out); rintro e w24 ⟨v280, rfl, ho0, hb⟩; refine ⟨_, rfl, ?_⟩; have n0_ := Aside0.mk (Kd.S_elder' (zS HO275.out) (Kd.R_base ho0) hb); have n1_ := Aside0.mk (Kd.R_elder' (zR HL276_0.out) (Kd.R_base ho0) hb); have n2_ := Aside0.mk (Kd.R_lower (Kd.R_new' ho0 (Kd.R_lt (zR HL276_0.out))) (below_size (zX HB.out GE269.out))); have n3_ := Aside0.mk (blk_below (g := gb269) (o := .cells #[.int .i64 x270000_2, .int .i64 x270001_2, .int .i64 x270002_2, .int .i64 x270003_2, .slice none 0 0] 25 (0, 0)) (zB BK269.out) hb); have n4_ := Aside0.mk (Kd.C_below (zC HR276_0.out) hb); have n5_ := Aside0.mk (below_step (zX HB.out GE269.out) hb); clear HO275; clear HL276_0; clear BK269; clear HR276_0; clear HB; have HO275 := n0_; have HL276_0 := n1_; have HO281 := n2_; have BK269 := n3_; have HR276_0 := n4_; have HB := n5_; clear n0_ n1_ n2_ n3_ n4_ n5_; (try clear hb); (try clear hb2); (try clear hk); (try clear hi); (try clear ho0); obtain ⟨Ao25, co25, eo25⟩ := Kd.R_slice HO281.out; subst eo25; have hcz26_0 : w24.cell? ⟨gb269, 0, none⟩ = some (.int .i64 x270000_2) := (blk_cell BK269.out 0).trans rfl; have hcz26_1 : w24.cell? ⟨gb269, 1, none⟩ = some (.int .i64 x270001_2) := (blk_cell BK269.out 1).trans rfl; have hcz26_2 : w24.cell? ⟨gb269, 2, none⟩ = some (.int .i64 x270002_2) := (blk_cell BK269.out 2).trans rfl; have hcz26_3 : w24.cell? ⟨gb269, 3, none⟩ = some (.int .i64 x270003_2) := (blk_cell BK269.out 3).trans rfl; have hcz26_4 : w24.cell? ⟨gb269, 4, none⟩ = some (.slice none 0 0) := (blk_cell BK269.out 4).trans rfl; have hfz26_0 := blk_frozen BK269.out 0; have hfz26_1 := blk_frozen BK269.out 1; have hfz26_2 := blk_frozen BK269.out 2; have hfz26_3 := blk_frozen BK269.out 3; have hfz26_4 := blk_frozen BK269.out 4))
             refine bodyPost_ret (results_ct rfl _ _ gb269 25 #[.int .i64 0, .int .i64 x8_1, .int .i64 x9_2, .int .i64 t270, .slice Ao25 t279.length co25] (0, 0) _ rfl (by (with_reducible repeat (first | refine blk_drewN ?_ _ | refine blk_drew ?_ | refine blk_alloc ?_ _)); refine blk_put (cs := #[.int .i64 0, .int .i64 x8_1, .int .i64 x9_2, .int .i64 t270, .slice none 0 0]) ?_ 4 _ rfl; (with_reducible repeat (first | refine blk_drewN ?_ _ | refine blk_drew ?_ | refine blk_alloc ?_ _)); refine blk_put (cs := #[.int .i64 0, .int .i64 x8_1, .int .i64 x9_2, .int .i64 x270003_2, .slice none 0 0]) ?_ 3 _ rfl; (with_reducible repeat (first | refine blk_drewN ?_ _ | refine blk_drew ?_ | refine blk_alloc ?_ _)); refine blk_put (cs := #[.int .i64 0, .int .i64 x8_1, .int .i64 x270002_2, .int .i64 x270003_2, .slice none 0 0]) ?_ 2 _ rfl; (with_reducible repeat (first | refine blk_drewN ?_ _ | refine blk_drew ?_ | refine blk_alloc ?_ _)); refine blk_put (cs := #[.int .i64 0, .int .i64 x270001_2, .int .i64 x270002_2, .int .i64 x270003_2, .slice none 0 0]) ?_ 1 _ rfl; (with_reducible repeat (first | refine blk_drewN ?_ _ | refine blk_drew ?_ | refine blk_alloc ?_ _)); refine blk_put (cs := #[.int .i64 x270000_2, .int .i64 x270001_2, .int .i64 x270002_2, .int .i64 x270003_2, .slice none 0 0]) ?_ 0 _ rfl; (with_reducible repeat (first | refine blk_drewN ?_ _ | refine blk_drew ?_ | refine blk_alloc ?_ _)); exact BK269.out) Try.underlying25 rfl (by kernel_rfl)) rfl ?_
             exact ⟨_, by first | rfl | (simp [errW_none, errW_some] <;> rfl) | (simp [*, errW_none, errW_some] <;> rfl), by (with_reducible repeat (first | apply Kd.R_alloc | apply Kd.R_drewN | apply Kd.R_drew)); exact Kd.R_mono (Kd.R_far (p := ⟨gb269, 4, none⟩) (Kd.R_far (p := ⟨gb269, 3, none⟩) (Kd.R_far (p := ⟨gb269, 2, none⟩) (Kd.R_far (p := ⟨gb269, 1, none⟩) (Kd.R_far (p := ⟨gb269, 0, none⟩) (Kd.R_types HO281.out BK269.out (by decide)) (fun _ hk => hk.2) (.int .i64 0)) (fun _ hk => hk.2) (.int .i64 x8_1)) (fun _ hk => hk.2) (.int .i64 x9_2)) (fun _ hk => hk.2) (.int .i64 t270)) (fun _ hk => hk.2) (.slice Ao25 t279.length co25)) (fun _ hk => trivial), zX HB.out GE269.out⟩
            ·rw [if_neg c15] at H
             have c15b0 : ((rd (rd_L1 t273 0) 0) == t270) = false := beq_eq_false_iff_ne.mpr c15
             have c15b1 : ((rd (rd_L1 t273 0) 0) != t270) = true := bne_iff_ne.mpr c15
             have H' := Aside0.mk H
             clear H
             obtain ⟨i027, hi027, _, hsz27, _⟩ := info_parts info3
             obtain ⟨A27, hcut27, hA27, hC27⟩ := print_mid_of (P := Try.prog) (Value.int .i64) 0 22 3 .i64 .i64 Try.underlying22 hi027 hsz27 A1 c1 l1 x8_1 x9_2 (of_decide_eq_true zA) (by first | omega | exact of_decide_eq_true zA) (of_decide_eq_true zA) HC1.out
             have HR272 := Aside0.mk (Kd.C_of_reads (h1 := fun _ => rfl) (hA27 _ (Kd.reads_of_C HR1.out)))
             have HC272 := Aside0.mk hC27
             clear hA27 hC27 hi027 hsz27
             go_wp2_with (first | ((with_reducible refine gate_callee (f := 44) rfl ?_); refine goesL_ (some 38) rfl rfl Try.func44 (by kernel_rfl) rfl #[.slice A0 l0.length c0, .slice A27 ((l1.take (x9_2 : Int).toNat).drop (x8_1 : Int).toNat).length (c1 - x8_1.toNat)] rfl (by (try simp only [List.map_toArray, List.map_cons, List.map_nil]); first | done | (rw [show ((l1.take (x9_2 : Int).toNat).drop (x8_1 : Int).toNat).length = (x9_2.toNat - x8_1.toNat) from (by rw [List.length_drop, List.length_take]; have h_ : (x9_2 : Int) ≤ (l1.length : Int) := of_decide_eq_true zA; omega)] <;> rfl) | rfl | (simp only [List.length_drop, List.length_take]; rfl)) ?_; (with_reducible refine (aircheckref36_rest.calls k2 _ _ l0 _ _ ((l1.take (x9_2 : Int).toNat).drop (x8_1 : Int).toNat) t273 _ ?side1 ?side2 ?side3 ?side4 A12.out).mono ?_); (case side1 => exact zC (Kd.C_below HR0.out HB.out)); (case side2 => exact HC0.out); (case side3 => exact zC (Kd.C_below HR272.out HB.out)); (case side4 => exact HC272.out); rintro e w28 ⟨v274, rfl, ho0, hb⟩; refine ⟨_, rfl, ?_⟩; have n0_ := Aside0.mk (Kd.S_lower ho0 (below_size (zX HB.out GE269.out))); have n1_ := Aside0.mk (blk_below (g := gb269) (o := .cells #[.int .i64 x270000_2, .int .i64 x270001_2, .int .i64 x270002_2, .int .i64 x270003_2, .slice none 0 0] 25 (0, 0)) (zB BK269.out) hb); have n2_ := Aside0.mk (below_step (zX HB.out GE269.out) hb); clear BK269; clear HB; have HO275 := n0_; have BK269 := n1_; have HB := n2_; clear n0_ n1_ n2_; (try clear hb); (try clear hb2); (try clear hk); (try clear hi); (try clear ho0); obtain ⟨Ao29, co29, eo29⟩ := Kd.S_slice HO275.out; subst eo29; have p276 : 0 ≤ (0 : Int) := (by omega); have q276 : 0 < (t273.length : Int) := of_decide_eq_true zA; obtain ⟨ad276, A276_0, c276_0, e276, hx276_0, hl276_0, hi276_0⟩ := at_L1 (Kd.S_reads' HO275.out).2.2 0 p276 q276; cases e276; obtain ⟨ce276, hce276, hMe276, hcc276⟩ := Kd.S_get HO275.out [] 0 p276 (by first | exact q276 | exact of_decide_eq_true zA | (have e_ := (Kd.S_reads' HO275.out).1; omega)); obtain ⟨ve276_0, rfl, ge276_0⟩ := hMe276; have hv276_0 := hcc276 0 _ rfl; rw [Nat.add_zero, show ((Kd.slice 3 (Kd.int .i64))).sz = 1 from rfl, Nat.mul_one] at hv276_0; replace hv276_0 := Option.some.inj (hv276_0.symm.trans hx276_0); rw [hv276_0] at ge276_0; have HL276_0 := Aside0.mk (show Kd.R (Kd.int .i64) 3 _ _ _ _ (rd_L1 t273 0) from ge276_0); clear hv276_0 ge276_0; clear hcc276 hce276; have qi276 : (0 < t273.length) = True := eq_true (by omega); (try rw [show ((0 : Int)).toNat = 0 from rfl] at hx276_0); (try rw [Addr.add_zero'] at hx276_0); have HR276_0 := Aside0.mk hi276_0; have HC276_0 := Aside0.mk hl276_0; clear hi276_0 hl276_0; replace p276 := eq_true p276; replace q276 := eq_true q276; have p277 : 0 ≤ (0 : Int) := (by omega); have q277 : 0 < ((rd_L1 t273 0).length : Int) := of_decide_eq_true zA; obtain ⟨ad277, e277, hx277_0⟩ := Kd.at_int (zC HR276_0.out) 0 p277 q277; cases e277; have qi277 : (0 < (rd_L1 t273 0).length) = True := eq_true (by omega); (try rw [show ((0 : Int)).toNat = 0 from rfl] at hx277_0); (try rw [Addr.add_zero'] at hx277_0); replace p277 := eq_true p277; replace q277 := eq_true q277))
             go_roundg k2
             case measure => have := HK1.out; have := HK2.out; omega
             case rel => exact ⟨(wrap64 (x9_2 + 1)), (x270000_2), (x270001_2), (x270002_2), (x270003_2), zE, H', ⟨by have := HK1.out; have := HK2.out; omega⟩, ⟨zB BK269.out⟩, ⟨zX HB.out GE269.out⟩⟩
           ·rw [if_neg c14] at H
            exact absurd H (by simp)
          ·rw [if_neg c13] at H
           exact absurd H (by simp)
         ·rw [if_neg c10] at H
          exact absurd H (by simp)
        ·rw [if_neg c9] at H
         exact absurd H (by simp)
       ·rw [if_neg c8] at H
        have c8b0 : decide (x9_2 ≤ (l1.length : Int)) = false := decide_eq_false c8
        clear c8
        have H' := Aside0.mk H
        clear H
        go_wp2
        go_roundg k2
        case measure => have := HK1.out; have := HK2.out; omega
        case rel => exact ⟨(wrap64 (x8_1 + 1)), (x270000_2), (x270001_2), (x270002_2), (x270003_2), zE, H', ⟨by have := HK1.out; have := HK2.out; omega⟩, ⟨zB BK269.out⟩, ⟨zX HB.out GE269.out⟩⟩
    ·rw [if_neg c7] at H
     have c7b0 : decide (x8_1 ≤ (l1.length : Int)) = false := decide_eq_false c7
     clear c7
     simp only [Option.some.injEq, Prod.mk.injEq] at H
     obtain ⟨rfl, rfl, rfl, rfl, rfl, rfl⟩ := H
     have hcz30_0 : wr.cell? ⟨gb269, 0, none⟩ = some (.int .i64 x270000_1) := (blk_cell BK269.out 0).trans rfl
     have hcz30_1 : wr.cell? ⟨gb269, 1, none⟩ = some (.int .i64 x270001_1) := (blk_cell BK269.out 1).trans rfl
     have hcz30_2 : wr.cell? ⟨gb269, 2, none⟩ = some (.int .i64 x270002_1) := (blk_cell BK269.out 2).trans rfl
     have hcz30_3 : wr.cell? ⟨gb269, 3, none⟩ = some (.int .i64 x270003_1) := (blk_cell BK269.out 3).trans rfl
     have hcz30_4 : wr.cell? ⟨gb269, 4, none⟩ = some (.slice none 0 0) := (blk_cell BK269.out 4).trans rfl
     have hfz30_0 := blk_frozen BK269.out 0
     have hfz30_1 := blk_frozen BK269.out 1
     have hfz30_2 := blk_frozen BK269.out 2
     have hfz30_3 := blk_frozen BK269.out 3
     have hfz30_4 := blk_frozen BK269.out 4
     go_wp2
     refine bodyPost_ret (results_ct rfl _ _ gb269 25 #[.int .i64 0, .int .i64 0, .int .i64 0, .int .i64 0, .slice none 0 0] (0, 0) _ rfl (by (with_reducible repeat (first | refine blk_drewN ?_ _ | refine blk_drew ?_ | refine blk_alloc ?_ _)); refine blk_put (cs := #[.int .i64 0, .int .i64 0, .int .i64 0, .int .i64 0, .slice none 0 0]) ?_ 4 _ rfl; (with_reducible repeat (first | refine blk_drewN ?_ _ | refine blk_drew ?_ | refine blk_alloc ?_ _)); refine blk_put (cs := #[.int .i64 0, .int .i64 0, .int .i64 0, .int .i64 x270003_1, .slice none 0 0]) ?_ 3 _ rfl; (with_reducible repeat (first | refine blk_drewN ?_ _ | refine blk_drew ?_ | refine blk_alloc ?_ _)); refine blk_put (cs := #[.int .i64 0, .int .i64 0, .int .i64 x270002_1, .int .i64 x270003_1, .slice none 0 0]) ?_ 2 _ rfl; (with_reducible repeat (first | refine blk_drewN ?_ _ | refine blk_drew ?_ | refine blk_alloc ?_ _)); refine blk_put (cs := #[.int .i64 0, .int .i64 x270001_1, .int .i64 x270002_1, .int .i64 x270003_1, .slice none 0 0]) ?_ 1 _ rfl; (with_reducible repeat (first | refine blk_drewN ?_ _ | refine blk_drew ?_ | refine blk_alloc ?_ _)); refine blk_put (cs := #[.int .i64 x270000_1, .int .i64 x270001_1, .int .i64 x270002_1, .int .i64 x270003_1, .slice none 0 0]) ?_ 0 _ rfl; (with_reducible repeat (first | refine blk_drewN ?_ _ | refine blk_drew ?_ | refine blk_alloc ?_ _)); exact BK269.out) Try.underlying25 rfl (by kernel_rfl)) rfl ?_
     exact ⟨_, by first | rfl | (simp [errW_none, errW_some] <;> rfl) | (simp [*, errW_none, errW_some] <;> rfl), by first | exact Kd.R_nil _ _ _ _ _ | exact Kd.N_nil _ _ _ _ _ | exact Kd.V_nil _ _ _ _ _ | exact Kd.Q_nil _ _ _ _ _ | exact Kd.S_nil _ _ _ _ _, zX HB.out GE269.out⟩
 ·rw [if_neg c4] at H
  have c4b0 : (t271 == 0) = false := beq_eq_false_iff_ne.mpr c4
  have c4b1 : (t271 != 0) = true := bne_iff_ne.mpr c4
  simp only [Option.some.injEq, Prod.mk.injEq] at H
  obtain ⟨rfl, rfl, rfl, rfl, rfl, rfl⟩ := H
  go_enter Try.func24, Try.ntmps24
  go_wp2_with (first | ((with_reducible refine gate_dst (N := 4) rfl ?_); refine box_event ?hg (N := 4) ?hd (cs := #[.int .i64 0, .int .i64 0, .int .i64 0, .int .i64 0, .slice none 0 0]) (t := 25) ?hr ?_; (case hd => rfl); (case hg => rfl); (case hr => first | (go_simp; done) | (go_simp; rfl)); intro gb269 hg w31 hbox hb; have n0_ := Aside0.mk (below_step (zW HB.out) hb); have n1_ := Aside0.mk (hbox); have n2_ := Aside0.mk ((by rw [hg]; exact (below_size (zW HB.out)) : w.heap.size ≤ gb269)); have n3_ := Aside0.mk ((by rw [hg]; exact (below_size (zW HB.out)) : w.heap.size ≤ gb269)); clear HB; have HB := n0_; have BK269 := n1_; have GW269 := n2_; have GE269 := n3_; clear n0_ n1_ n2_ n3_; clear hb hbox hg) | ((with_reducible refine gate_callee (f := 22) rfl ?_); refine goesL_ (some 13) rfl rfl Try.func22 (by kernel_rfl) rfl #[.slice A0 l0.length c0, .slice A1 l1.length c1] rfl (by (try simp only [List.map_toArray, List.map_cons, List.map_nil]); first | done | rfl | (simp only [List.length_drop, List.length_take]; rfl)) ?_; (with_reducible refine (aircheckref36_Cost.calls k _ _ l0 _ _ l1 t270 t271 _ ?side1 ?side2 ?side3 ?side4 A3.out).mono ?_); (case side1 => exact zC (Kd.C_below HR0.out HB.out)); (case side2 => exact HC0.out); (case side3 => exact zC (Kd.C_below HR1.out HB.out)); (case side4 => exact HC1.out); rintro e w32 ⟨rfl, hb⟩; refine ⟨_, rfl, ?_⟩; have n0_ := Aside0.mk (blk_below (g := gb269) (o := .cells #[.int .i64 0, .int .i64 0, .int .i64 0, .int .i64 0, .slice none 0 0] 25 (0, 0)) (zB BK269.out) hb); have n1_ := Aside0.mk (below_step (zX HB.out GE269.out) hb); clear BK269; clear HB; have BK269 := n0_; have HB := n1_; clear n0_ n1_; (try clear hb); (try clear hb2); (try clear hk); (try clear hi); have hcz33_0 : w32.cell? ⟨gb269, 0, none⟩ = some (.int .i64 0) := (blk_cell BK269.out 0).trans rfl; have hcz33_1 : w32.cell? ⟨gb269, 1, none⟩ = some (.int .i64 0) := (blk_cell BK269.out 1).trans rfl; have hcz33_2 : w32.cell? ⟨gb269, 2, none⟩ = some (.int .i64 0) := (blk_cell BK269.out 2).trans rfl; have hcz33_3 : w32.cell? ⟨gb269, 3, none⟩ = some (.int .i64 0) := (blk_cell BK269.out 3).trans rfl; have hcz33_4 : w32.cell? ⟨gb269, 4, none⟩ = some (.slice none 0 0) := (blk_cell BK269.out 4).trans rfl; have hfz33_0 := blk_frozen BK269.out 0; have hfz33_1 := blk_frozen BK269.out 1; have hfz33_2 := blk_frozen BK269.out 2; have hfz33_3 := blk_frozen BK269.out 3; have hfz33_4 := blk_frozen BK269.out 4))
  refine bodyPost_ret (results_ct rfl _ _ gb269 25 #[.int .i64 0, .int .i64 0, .int .i64 0, .int .i64 0, .slice none 0 0] (0, 0) _ rfl (by (with_reducible repeat (first | refine blk_drewN ?_ _ | refine blk_drew ?_ | refine blk_alloc ?_ _)); refine blk_put (cs := #[.int .i64 0, .int .i64 0, .int .i64 0, .int .i64 0, .slice none 0 0]) ?_ 4 _ rfl; (with_reducible repeat (first | refine blk_drewN ?_ _ | refine blk_drew ?_ | refine blk_alloc ?_ _)); refine blk_put (cs := #[.int .i64 0, .int .i64 0, .int .i64 0, .int .i64 0, .slice none 0 0]) ?_ 3 _ rfl; (with_reducible repeat (first | refine blk_drewN ?_ _ | refine blk_drew ?_ | refine blk_alloc ?_ _)); refine blk_put (cs := #[.int .i64 0, .int .i64 0, .int .i64 0, .int .i64 0, .slice none 0 0]) ?_ 2 _ rfl; (with_reducible repeat (first | refine blk_drewN ?_ _ | refine blk_drew ?_ | refine blk_alloc ?_ _)); refine blk_put (cs := #[.int .i64 0, .int .i64 0, .int .i64 0, .int .i64 0, .slice none 0 0]) ?_ 1 _ rfl; (with_reducible repeat (first | refine blk_drewN ?_ _ | refine blk_drew ?_ | refine blk_alloc ?_ _)); refine blk_put (cs := #[.int .i64 0, .int .i64 0, .int .i64 0, .int .i64 0, .slice none 0 0]) ?_ 0 _ rfl; (with_reducible repeat (first | refine blk_drewN ?_ _ | refine blk_drew ?_ | refine blk_alloc ?_ _)); exact BK269.out) Try.underlying25 rfl (by kernel_rfl)) rfl ?_
  exact ⟨_, by first | rfl | (simp [errW_none, errW_some] <;> rfl) | (simp [*, errW_none, errW_some] <;> rfl), by first | exact Kd.R_nil _ _ _ _ _ | exact Kd.N_nil _ _ _ _ _ | exact Kd.V_nil _ _ _ _ _ | exact Kd.Q_nil _ _ _ _ _ | exact Kd.S_nil _ _ _ _ _, zX HB.out GE269.out⟩

/-! ### aircheckref36_SameTable: function 28 -/
def aircheckref36_SameTable.l0 : Nat → List (List Int) → List (List Int) → Int → Option (Bool)
 | 0, _, _, _ => none
 | k + 1, x0, x1, x5 => if x5 < (x0.length : Int) then (if 0 ≤ x5 then (if x5 < (x1.length : Int) then ((aircheckref36_Ints.f k (rd_L1 x0 x5) (rd_L1 x1 x5)).bind fun t284 => (if t284 = true then (aircheckref36_SameTable.l0 k x0 x1 (wrap64 (x5 + 1))) else (some false))) else (none)) else (none)) else (some true)
def aircheckref36_SameTable.f (k : Nat) (l0 : List (List Int)) (l1 : List (List Int)) : Option (Bool) := if (l0.length : Int) = (l1.length : Int) then (aircheckref36_SameTable.l0 k l0 l1 0) else (some false)
set_option maxHeartbeats 8000000 in
set_option maxRecDepth 100000 in
theorem aircheckref36_SameTable.calls (k : Nat) (A0 : Option Addr) (c0 : Nat) (l0 : List (List Int)) (A1 : Option Addr) (c1 : Nat) (l1 : List (List Int)) (r : Bool) (w : World) (hr0 : Kd.C (Kd.slice 3 (Kd.int .i64)) w A0 l0.length l0) (hc0 : l0.length ≤ c0) (hr1 : Kd.C (Kd.slice 3 (Kd.int .i64)) w A1 l1.length l1) (hc1 : l1.length ≤ c1) (h : aircheckref36_SameTable.f k l0 l1 = some r) :
  Calls Try.prog 28 #[.slice A0 l0.length c0, .slice A1 l1.length c1] w fun e w' => e = .returned (.bool r) ∧ Drawn0 w w' := by
 have HR0 := Aside0.mk hr0
 have HC0 := Aside0.mk hc0
 clear hr0 hc0
 have HR1 := Aside0.mk hr1
 have HC1 := Aside0.mk hc1
 clear hr1 hc1
 have H : (if (l0.length : Int) = (l1.length : Int) then (aircheckref36_SameTable.l0 k l0 l1 0) else (some false)) = some r := h
 clear h
 by_cases c3 : (l0.length : Int) = (l1.length : Int)
 ·rw [if_pos c3] at H
  have c3b0 : ((l0.length : Int) == (l1.length : Int)) = true := beq_iff_eq.mpr c3
  have c3b1 : ((l0.length : Int) != (l1.length : Int)) = false := bne_eq_false_iff_eq.mpr c3
  have c3b2 : (l0.length == l1.length) = true := by first | simpa using c3 | (simp at c3 ⊢; omega)
  clear c3
  have H' := Aside0.mk H
  clear H
  go_enter Try.func28, Try.ntmps28
  go_wp2
  repeat (go_quiet (fail); try go_wp2)
  go_loopg [5] k (fun kq v5 w' => ∃ (x5_1 : Int), v5 = .int .i64 x5_1 ∧ Aside0 (aircheckref36_SameTable.l0 kq l0 l1 x5_1 = some r) ∧ Aside0 (kq ≤ k) ∧ Drawn0 w w')
  case atStart => exact ⟨(0), zE, H', ⟨Nat.le_refl _⟩, by repeat (first | exact Drawn0.refl _ | apply Drawn0.step)⟩
  case round =>
   clear H'
   (try clear c1); (try clear c2); (try clear p2); (try clear c3); (try clear c3b0); (try clear c3b1); (try clear c3b2)
   obtain ⟨x5_1, rfl, HA, HK1, ⟨m1, rfl⟩⟩ := hrel
   cases gk with
   | zero => exact absurd HA.out (by simp [aircheckref36_SameTable.l0])
   | succ k1 =>
    have H := HA.out
    clear HA
    simp only [aircheckref36_SameTable.l0] at H
    by_cases c4 : x5_1 < (l0.length : Int)
    ·rw [if_pos c4] at H
     have c4b0 : decide (x5_1 < (l0.length : Int)) = true := decide_eq_true c4
     clear c4
     by_cases c5 : 0 ≤ x5_1
     ·rw [if_pos c5] at H
      have c5b0 : decide (0 ≤ x5_1) = true := decide_eq_true c5
      clear c5
      by_cases c6 : x5_1 < (l1.length : Int)
      ·rw [if_pos c6] at H
       have c6b0 : decide (x5_1 < (l1.length : Int)) = true := decide_eq_true c6
       clear c6
       replace H := Option.bind_eq_some_iff.mp H
       obtain ⟨t284, A70, H⟩ := H
       have A7 := Aside0.mk A70
       clear A70
       by_cases c8 : t284 = true
       ·subst c8
        rw [if_pos rfl] at H
        have H' := Aside0.mk H
        clear H
        have p282 : 0 ≤ (x5_1 : Int) := of_decide_eq_true zA
        have q282 : x5_1 < (l0.length : Int) := of_decide_eq_true zA
        obtain ⟨ad282, A282_0, c282_0, e282, hx282_0, hl282_0, hi282_0⟩ := at_L1 HR0.out x5_1 p282 q282
        cases e282
        have HR282_0 := Aside0.mk hi282_0
        have HC282_0 := Aside0.mk hl282_0
        clear hi282_0 hl282_0
        replace p282 := eq_true p282
        replace q282 := eq_true q282
        have p283 : 0 ≤ (x5_1 : Int) := of_decide_eq_true zA
        have q283 : x5_1 < (l1.length : Int) := of_decide_eq_true zA
        obtain ⟨ad283, A283_0, c283_0, e283, hx283_0, hl283_0, hi283_0⟩ := at_L1 HR1.out x5_1 p283 q283
        cases e283
        have HR283_0 := Aside0.mk hi283_0
        have HC283_0 := Aside0.mk hl283_0
        clear hi283_0 hl283_0
        replace p283 := eq_true p283
        replace q283 := eq_true q283
        go_wp2_with (first | (go_at_call 36; (with_reducible refine (aircheckref36_Ints.calls k1 _ _ (rd_L1 l0 x5_1) _ _ (rd_L1 l1 x5_1) true _ ?side1 ?side2 ?side3 ?side4 A7.out).mono ?_); (case side1 => exact zC HR282_0.out); (case side2 => exact HC282_0.out); (case side3 => exact zC HR283_0.out); (case side4 => exact HC283_0.out); rintro e w' ⟨rfl, ⟨nd, rfl⟩⟩; (try first | exact ⟨rfl, _, World.drewN_drewN _ _ _⟩ | exact ⟨rfl, _, Eq.trans (World.drewN_drewN _ _ _) (congrArg (World.drewN _) (Nat.add_assoc _ _ _))⟩)))
        repeat (go_quiet (first | (go_at_call 36; (with_reducible refine (aircheckref36_Ints.calls k1 _ _ (rd_L1 l0 x5_1) _ _ (rd_L1 l1 x5_1) true _ ?side1 ?side2 ?side3 ?side4 A7.out).mono ?_); (case side1 => exact zC HR282_0.out); (case side2 => exact HC282_0.out); (case side3 => exact zC HR283_0.out); (case side4 => exact HC283_0.out); rintro e w' ⟨rfl, ⟨nd, rfl⟩⟩; (try first | exact ⟨rfl, _, World.drewN_drewN _ _ _⟩ | exact ⟨rfl, _, Eq.trans (World.drewN_drewN _ _ _) (congrArg (World.drewN _) (Nat.add_assoc _ _ _))⟩))); try go_wp2_with (first | (go_at_call 36; (with_reducible refine (aircheckref36_Ints.calls k1 _ _ (rd_L1 l0 x5_1) _ _ (rd_L1 l1 x5_1) true _ ?side1 ?side2 ?side3 ?side4 A7.out).mono ?_); (case side1 => exact zC HR282_0.out); (case side2 => exact HC282_0.out); (case side3 => exact zC HR283_0.out); (case side4 => exact HC283_0.out); rintro e w' ⟨rfl, ⟨nd, rfl⟩⟩; (try first | exact ⟨rfl, _, World.drewN_drewN _ _ _⟩ | exact ⟨rfl, _, Eq.trans (World.drewN_drewN _ _ _) (congrArg (World.drewN _) (Nat.add_assoc _ _ _))⟩))))
        go_roundg k1
        case measure => have := HK1.out; omega
        case rel => exact ⟨(wrap64 (x5_1 + 1)), zE, H', ⟨by have := HK1.out; omega⟩, by repeat (first | exact Drawn0.refl _ | apply Drawn0.step)⟩
       ·replace c8 := Bool.eq_false_iff.mpr c8
        subst c8
        rw [if_neg (show ¬ (false = true) by decide)] at H
        obtain rfl := Option.some.inj H
        have p282 : 0 ≤ (x5_1 : Int) := of_decide_eq_true zA
        have q282 : x5_1 < (l0.length : Int) := of_decide_eq_true zA
        obtain ⟨ad282, A282_0, c282_0, e282, hx282_0, hl282_0, hi282_0⟩ := at_L1 HR0.out x5_1 p282 q282
        cases e282
        have HR282_0 := Aside0.mk hi282_0
        have HC282_0 := Aside0.mk hl282_0
        clear hi282_0 hl282_0
        replace p282 := eq_true p282
        replace q282 := eq_true q282
        have p283 : 0 ≤ (x5_1 : Int) := of_decide_eq_true zA
        have q283 : x5_1 < (l1.length : Int) := of_decide_eq_true zA
        obtain ⟨ad283, A283_0, c283_0, e283, hx283_0, hl283_0, hi283_0⟩ := at_L1 HR1.out x5_1 p283 q283
        cases e283
        have HR283_0 := Aside0.mk hi283_0
        have HC283_0 := Aside0.mk hl283_0
        clear hi283_0 hl283_0
        replace p283 := eq_true p283
        replace q283 := eq_true q283
        go_wp2_with (first | (go_at_call 36; (with_reducible refine (aircheckref36_Ints.calls k1 _ _ (rd_L1 l0 x5_1) _ _ (rd_L1 l1 x5_1) false _ ?side1 ?side2 ?side3 ?side4 A7.out).mono ?_); (case side1 => exact zC HR282_0.out); (case side2 => exact HC282_0.out); (case side3 => exact zC HR283_0.out); (case side4 => exact HC283_0.out); rintro e w' ⟨rfl, ⟨nd, rfl⟩⟩; (try first | exact ⟨rfl, _, World.drewN_drewN _ _ _⟩ | exact ⟨rfl, _, Eq.trans (World.drewN_drewN _ _ _) (congrArg (World.drewN _) (Nat.add_assoc _ _ _))⟩)))
        repeat (go_quiet (first | (go_at_call 36; (with_reducible refine (aircheckref36_Ints.calls k1 _ _ (rd_L1 l0 x5_1) _ _ (rd_L1 l1 x5_1) false _ ?side1 ?side2 ?side3 ?side4 A7.out).mono ?_); (case side1 => exact zC HR282_0.out); (case side2 => exact HC282_0.out); (case side3 => exact zC HR283_0.out); (case side4 => exact HC283_0.out); rintro e w' ⟨rfl, ⟨nd, rfl⟩⟩; (try first | exact ⟨rfl, _, World.drewN_drewN _ _ _⟩ | exact ⟨rfl, _, Eq.trans (World.drewN_drewN _ _ _) (congrArg (World.drewN _) (Nat.add_assoc _ _ _))⟩))); try go_wp2_with (first | (go_at_call 36; (with_reducible refine (aircheckref36_Ints.calls k1 _ _ (rd_L1 l0 x5_1) _ _ (rd_L1 l1 x5_1) false _ ?side1 ?side2 ?side3 ?side4 A7.out).mono ?_); (case side1 => exact zC HR282_0.out); (case side2 => exact HC282_0.out); (case side3 => exact zC HR283_0.out); (case side4 => exact HC283_0.out); rintro e w' ⟨rfl, ⟨nd, rfl⟩⟩; (try first | exact ⟨rfl, _, World.drewN_drewN _ _ _⟩ | exact ⟨rfl, _, Eq.trans (World.drewN_drewN _ _ _) (congrArg (World.drewN _) (Nat.add_assoc _ _ _))⟩))))
        go_ret
        exact ⟨by first | rfl | (simp; done) | (simp [*]; done), by repeat (first | exact Drawn0.refl _ | apply Drawn0.step)⟩
      ·rw [if_neg c6] at H
       exact absurd H (by simp)
     ·rw [if_neg c5] at H
      exact absurd H (by simp)
    ·rw [if_neg c4] at H
     have c4b0 : decide (x5_1 < (l0.length : Int)) = false := decide_eq_false c4
     clear c4
     obtain rfl := Option.some.inj H
     go_wp2
     repeat (go_quiet (fail); try go_wp2)
     go_ret
     exact ⟨by first | rfl | (simp; done) | (simp [*]; done), by repeat (first | exact Drawn0.refl _ | apply Drawn0.step)⟩
 ·rw [if_neg c3] at H
  have c3b0 : ((l0.length : Int) == (l1.length : Int)) = false := beq_eq_false_iff_ne.mpr c3
  have c3b1 : ((l0.length : Int) != (l1.length : Int)) = true := bne_iff_ne.mpr c3
  have c3b2 : (l0.length == l1.length) = false := by first | simpa using c3 | (simp at c3 ⊢; omega)
  obtain rfl := Option.some.inj H
  go_enter Try.func28, Try.ntmps28
  go_wp2
  repeat (go_quiet (fail); try go_wp2)
  go_ret
  exact ⟨by first | rfl | (simp; done) | (simp [*]; done), by repeat (first | exact Drawn0.refl _ | apply Drawn0.step)⟩

end Go.Proofs.Ytgaepndbfpfniaa.PFR
