-- PRINTED by print.py (a twelfth state) out of the translation. Not trusted: Lean checks it.
import Derived.Test.YtgaepndbfpfniaaPFRx0
import Derived.Test.YtgaepndbfpfniaaPFRx4
import Derived.Test.YtgaepndbfpfniaaPFRx5
import Derived.Test.YtgaepndbfpfniaaPFRx8
import Derived.Test.YtgaepndbfpfniaaPFRx10
import Derived.Test.YtgaepndbfpfniaaPFRx11
import Derived.RangeFuncNested
import Derived.RangeFuncBound
import Derived.RangeFuncCalls
import Derived.RangeFuncLeaves
import Derived.RangeFuncBox
import Derived.Shelf.Abstract
import Derived.Shelf.RegionOpen
import Derived.OwnWalkIn
import Derived.TacticsInMore
import Derived.LoopNIn
import Derived.LoopIn
import Derived.OneCell
import Derived.BigQuiet
import Derived.Deep.RegionWith
import Derived.Deep.RegionHeld3
import Derived.Deep.RegionLaw
import Derived.IntWalk
import Derived.Lib.SliceRun
namespace Go.Proofs.Ytgaepndbfpfniaa.PFR
open Go.RowKit Go.Proofs.YtgaepndbfpfniaaW.PrintWords Go.Proofs.YtgaepndbfpfniaaW.PrintLast Go.Proofs.YtgaepndbfpfniaaW.PrintMore
attribute [local go_sem] max2_int min2_int max_two min_two max_three min_three max_four min_four   -- for this text's walks alone
set_option linter.unusedVariables false
set_option linter.unusedSimpArgs false

attribute [local go_sem] Oper.semAt_some
open Go.Shelf
-- given by hand: fp10
def fp_lenOf : Value → Nat
 | .slice _ n _ => n
 | _ => 0
set_option maxRecDepth 100000 in
set_option maxHeartbeats 4000000 in
theorem fp_steps (A0 : Option Addr) (c0 : Nat) (l0 : List Int) (A1 : Option Addr) (c1 : Nat) (l1 : List Int) (r : List Int) (w : World) (hr0 : Kd.C (Kd.int .i64) w A0 l0.length l0) (hc0 : l0.length ≤ c0) (hr1 : Kd.C (Kd.int .i64) w A1 l1.length l1) (hc1 : l1.length ≤ c1)
  (hl0 : l0.length ≤ 1000) (hl1 : l1.length ≤ 1000) (h : fp_opsF (fp_tableB l0 l1) (l0.length + l1.length + 1) l0 l1 = some r) :
  Calls Try.prog 48 #[.slice A0 l0.length c0, .slice A1 l1.length c1] w fun e w' => ∃ v0_ : Value, e = .returned v0_ ∧ Kd.R (Kd.int .i64) 3 w' w.heap.size (fun _ => True) v0_ r ∧ Below w.heap.size w w' := by
 have HR0 := Aside0.mk hr0
 have HR1 := Aside0.mk hr1
 have HC0 := Aside0.mk hc0
 have HC1 := Aside0.mk hc1
 have HL0 := Aside0.mk hl0
 have HL1 := Aside0.mk hl1
 have H := Aside0.mk h
 have hb0 : Below w.heap.size w (w.alloc (.cells #[.slice none 0 0] 26)) := below_alloc (Below.refl _ _) _
 have HB0 := Aside0.mk hb0
 have hbx0 := World.alloc_heap_new w (.cells #[.slice none 0 0] 26)
 have HBX0 := Aside0.mk hbx0
 clear hr0 hr1 hc0 hc1 hl0 hl1 h hb0 hbx0
 obtain ⟨ra, hra⟩ : ∃ ra, l0.reverse = ra := ⟨_, rfl⟩
 obtain ⟨rb, hrb⟩ : ∃ rb, l1.reverse = rb := ⟨_, rfl⟩
 have hla : ra.length ≤ 1000 := by rw [← hra, List.length_reverse]; exact HL0.out
 have hlb : rb.length ≤ 1000 := by rw [← hrb, List.length_reverse]; exact HL1.out
 have HT := Aside0.mk (show fp_tableB l0 l1 = fp_rowsP ra rb false by unfold fp_tableB; rw [hra, hrb])
 have HLA := Aside0.mk hla
 have HLB := Aside0.mk hlb
 have HRAE := Aside0.mk hra
 have HRBE := Aside0.mk hrb
 clear hla hlb hra hrb
 go_enter Try.func48, Try.ntmps48
 go_wp2_with fail
 refine (fp_backwards _ _ l0 _ (Kd.C_below HR0.out HB0.out) HL0.out).mono ?_
 rintro e w1 ⟨va, rfl, hRa, hBa⟩
 rw [HRAE.out] at hRa
 obtain ⟨Aa, ca, rfl⟩ := Kd.R_slice hRa
 have HRA := Aside0.mk hRa
 have HB1 := Aside0.mk (below_step HB0.out hBa)
 have HBX1 := Aside0.mk (blk_below HBX0.out hBa)
 clear hRa hBa
 go_wp2_with fail
 refine (fp_backwards _ _ l1 _ (Kd.C_below HR1.out HB1.out) HL1.out).mono ?_
 rintro e w2 ⟨vb, rfl, hRb, hBb⟩
 rw [HRBE.out] at hRb
 obtain ⟨Ab, cb, rfl⟩ := Kd.R_slice hRb
 have HRB := Aside0.mk hRb
 have HRA2 := Aside0.mk (Kd.R_below HRA.out hBb)
 have HB2 := Aside0.mk (below_step HB1.out hBb)
 have HBX2 := Aside0.mk (blk_below HBX1.out hBb)
 have HLT := Aside0.mk (blk_lt HBX1.out)
 clear hRb hBb HRA HBX1 HBX0
 have hj : fp_tabJ w w.heap.size [(.slice Aa ra.length ca, ra), (.slice Ab rb.length cb, rb)] (fun _ => False) [] w2 := by
  refine ⟨HB2.out, Nat.le_refl _, fun h => h, ⟨_, HBX2.out, Kd.S_nil _ _ _ _ _⟩, ?_⟩
  intro q hq
  rcases List.mem_cons.1 hq with rfl | hq
  ·refine Kd.R_lower (Kd.R_mono (Kd.R_bound HRA2.out) (fun k hk => ⟨?_, fun h => h⟩)) HB0.out.size
   have := hk.2.1
   simp at this
   omega
  ·rcases List.mem_cons.1 hq with rfl | hq
   ·refine Kd.R_lower (Kd.R_mono (Kd.R_bound HRB.out) (fun k hk => ⟨?_, fun h => h⟩)) HB1.out.size
    have := hk.2.1
    have := HLT.out
    omega
   ·cases hq
 have hrows := fp_rows 60 #[.pointer (some ⟨w.heap.size, 0, none⟩)] (fp_tabJ w w.heap.size [(.slice Aa ra.length ca, ra), (.slice Ab rb.length cb, rb)]) Aa ca ra Ab cb rb false w w2
  ((fp_stepsEach w w.heap.size _ (rb.length + 1) _ (by have := HLB.out; omega)).less (by have := HLA.out; omega))
  (fun X pre W hJ => (Kd.R_reads' (hJ.2.2.2.2 _ (List.mem_cons_self ..))).2.2) (fun X pre W hJ => (Kd.R_reads' (hJ.2.2.2.2 _ (List.mem_cons_of_mem _ (List.mem_cons_self ..)))).2.2) HB2.out.size hj HLA.out HLB.out
 have HROWS := Aside0.mk hrows
 clear hrows hj HRA2 HRB
 go_wp2_with fail
 refine HROWS.out.mono ?_
 rintro e wt ⟨rfl, X, hX, ⟨h1, h2, h3, ⟨u, h4, h5⟩, _⟩, hrow, hb⟩
 rw [← HT.out] at h5
 obtain ⟨T, hTT⟩ : ∃ T, fp_tableB l0 l1 = T := ⟨_, rfl⟩
 have hd := fp_tableB_dims l0 l1
 have h := H.out
 rw [hTT] at h h5 hd
 obtain ⟨At, ct, rfl⟩ := Kd.S_slice h5
 have HD := Aside0.mk hd
 have HH := Aside0.mk h
 have HBT := Aside0.mk h1
 have HBOX := Aside0.mk h4
 have HTR := Aside0.mk (Kd.S_reads' h5).2.2
 have HCA := Aside0.mk (Kd.C_below HR0.out h1)
 have HCB := Aside0.mk (Kd.C_below HR1.out h1)
 clear h1 h2 h3 h4 h5 hrow hb hX hd h hTT HROWS HT HRAE HRBE HLA HLB HBX2 HLT HB0 HB1 HB2 HR0 HR1 H
 go_wp2
 go_loopw [0, 1, 4] (fun a b o wr => ∃ (Ah : Option Addr) (nh ch : Nat) (h : List Int) (Ap : Option Addr) (np cp : Nat) (p out : List Int) (k : Nat), a = .slice Ah nh ch ∧ b = .slice Ap np cp ∧
   Aside0 (h.length = nh ∧ nh ≤ ch ∧ nh ≤ l0.length ∧ p.length = np ∧ np ≤ cp ∧ np ≤ l1.length) ∧ Aside0 (Kd.C (Kd.int .i64) wt Ah nh h) ∧ Aside0 (Kd.C (Kd.int .i64) wt Ap np p) ∧ Aside0 (Below wt.heap.size wt wr) ∧
   Aside0 (Kd.R (Kd.int .i64) 3 wr wt.heap.size (fun _ => True) o out) ∧ Aside0 (∃ s, fp_opsF T k h p = some s ∧ out ++ s = r) ∧ Aside0 (out.length + nh + np ≤ 2000)) (fun a b _ _ => fp_lenOf a + fp_lenOf b)
 case atStart => exact ⟨_, _, _, l0, _, _, _, l1, [], _, rfl, rfl, ⟨rfl, HC0.out, Nat.le_refl _, rfl, HC1.out, Nat.le_refl _⟩, HCA, HCB, ⟨Below.refl _ _⟩, ⟨Kd.R_nil _ _ _ _ _⟩, ⟨r, HH.out, rfl⟩, ⟨by have := HL0.out; have := HL1.out; simp; omega⟩⟩
 case round =>
  obtain ⟨Ah, nh, ch, h, Ap, np, cp, p, out, k, rfl, rfl, HN, HHR, HPR, HBR, HRO, HS, HLEN⟩ := hrel
  obtain ⟨Ao, co, rfl⟩ := Kd.R_slice HRO.out
  have hE : ∀ (Ah Ap : Option Addr) (a ca b cb : Nat), a ≤ l0.length → b ≤ l1.length → ∀ W, Below wt.heap.size wt W → Calls Try.prog 61 #[.slice Ah a ca, .slice Ap b cb, .pointer (some ⟨w.heap.size, 0, none⟩)] W fun e w' => e = .returned (.int .i64 (fp_errT T a b)) ∧ W = w' := by
   intro Ah Ap a ca b cb ha hb W hW
   exact fp_err w.heap.size At Ah Ap ct a ca b cb T W (blk_below HBOX.out hW) (Kd.C_below HTR.out hW) (by rw [HD.out.1]; omega) (by rw [HD.out.2 a ha]; omega)
  have HEE := Aside0.mk hE
  clear hE
  cases h with
  | nil =>
   obtain rfl : nh = 0 := by have := HN.out.1; simpa using this.symm
   cases p with
   | nil =>
    obtain rfl : np = 0 := by have := HN.out.2.2.2.1; simpa using this.symm
    have HR := Aside0.mk (show out = r by
     obtain ⟨s, h1, h2⟩ := HS.out
     cases k with
     | zero => cases h1
     | succ k => cases h1; simpa using h2)
    go_wp2
    go_ret
    exact ⟨_, rfl, by rw [← HR.out]; exact Kd.R_lower HRO.out HBT.out.size, below_step HBT.out HBR.out⟩
   | cons y p =>
    obtain ⟨n, rfl⟩ : ∃ n, np = n + 1 := ⟨p.length, by have := HN.out.2.2.2.1; simp at this; omega⟩
    have hlp : p.length = n := by have := HN.out.2.2.2.1; simp at this; omega
    obtain ⟨A', hcut, hcr⟩ := fp_tail Ap cp n y p hlp HN.out.2.2.2.2.1
    have HE0 := Aside0.mk (fun W hW => HEE.out Ah Ap 0 ch (n + 1) cp (Nat.zero_le _) HN.out.2.2.2.2.2 W hW)
    obtain ⟨k, rfl⟩ : ∃ j, k = j + 1 := ⟨k - 1, by cases k with
     | zero => obtain ⟨s, h1, _⟩ := HS.out; cases h1
     | succ k => rfl⟩
    have HS2 := Aside0.mk (fp_op (c := 4) HS.out)
    have HCR := Aside0.mk hcr
    have HLP := Aside0.mk hlp
    have d1 : decide ((0 : Int) < (n : Int) + 1) = true := decide_eq_true (by omega)
    clear hcr hlp
    go_wp2_with (first | (go_at_call 61; refine (HE0.out _ (by repeat (first | exact HBR.out | apply pw_below_drewN | apply below_drew))).mono ?_; rintro e w' ⟨rfl, rfl⟩))
    all_goals (try go_quiet (fail))
    all_goals (try go_wp2)
    all_goals (try go_quiet (fail))
    all_goals (try go_wp2)
    go_region_held3 (fun W => Aside0 (Below wt.heap.size wt W)) (first | exact HBR2 | exact ⟨by repeat (first | exact HBR.out | apply pw_below_drewN | apply below_drew | apply below_alloc)⟩) (first | (refine Kd.R_append_step (Kd.int .i64) (w0 := wt) wt.heap.size (by rfl) (.tmp 36) (.tmp 37) 22 3 (.int .i64 0) 8 rfl Try.underlying22 info3 rfl (by decide) (by decide) (.slice Ao out.length co) out (4 : Int) [.int .i64 4] (fun _ => True) (fun _ => False) rfl rfl rfl (fun _ h => h.elim) (fun _ _ => trivial) (by (with_reducible repeat (first | apply Kd.R_drew | apply Kd.R_drewN)); exact HRO.out) (by repeat (first | exact HBR.out | apply pw_below_drewN | apply below_drew)) (by have := HBR.out.size; exact this) (by have := HLEN.out; omega) ?_; intro vo wo hro hbo _ _; have HRO2 := Aside0.mk hro; have HBR2 := Aside0.mk hbo; clear hro hbo))
    go_wp2
    go_roundw
    case rel => exact ⟨Ah, 0, ch, [], A', n, cp - 1, p, out ++ [4], k, rfl, rfl, ⟨rfl, Nat.zero_le _, Nat.zero_le _, HLP.out, by have := HN.out.2.2.2.2.1; omega, by have := HN.out.2.2.2.2.2; omega⟩, HHR, ⟨HCR.out _ HPR.out⟩, HBR2, HRO2, HS2, ⟨by have := HLEN.out; simp; omega⟩⟩
    case measure => simp [fp_lenOf]
  | cons x h =>
   obtain ⟨m, rfl⟩ : ∃ m, nh = m + 1 := ⟨h.length, by have := HN.out.1; simp at this; omega⟩
   have hlh : h.length = m := by have := HN.out.1; simp at this; omega
   obtain ⟨B', hcutH, hcrH⟩ := fp_tail Ah ch m x h hlh HN.out.2.1
   have HCRH := Aside0.mk hcrH
   have HLH := Aside0.mk hlh
   have e1 : decide ((0 : Int) < (m : Int) + 1) = true := decide_eq_true (by omega)
   have e3 : (0 : Int) < (m : Int) + 1 := by omega
   obtain ⟨adh, rfl, hxh⟩ := Kd.at_int HHR.out 0 (Int.le_refl _) (by omega)
   rw [show adh.add (Int.toNat 0) = adh from by simp [Addr.add], show rd (x :: h) 0 = x from rfl] at hxh
   have HXH := Aside0.mk hxh
   clear hcrH hlh hxh
   obtain ⟨k, rfl⟩ : ∃ j, k = j + 1 := ⟨k - 1, by cases k with
    | zero => obtain ⟨s, h1, _⟩ := HS.out; cases h1
    | succ k => rfl⟩
   cases p with
   | nil =>
    obtain rfl : np = 0 := by have := HN.out.2.2.2.1; simpa using this.symm
    have HE0 := Aside0.mk (fun W hW => HEE.out (some adh) Ap (m + 1) ch 0 cp HN.out.2.2.1 (Nat.zero_le _) W hW)
    have HE1 := Aside0.mk (fun W hW => HEE.out B' Ap m (ch - 1) 0 cp (by have := HN.out.2.2.1; omega) (Nat.zero_le _) W hW)
    have hcond : wrap64 (fp_errT T m 0 + 1) = fp_errT T (m + 1) 0 := by
     obtain ⟨s, h1, _⟩ := HS.out
     simp only [fp_opsF, HLH.out] at h1
     by_cases hc : wrap64 (fp_errT T m 0 + 1) = fp_errT T (m + 1) 0
     ·exact hc
     ·rw [if_neg hc] at h1; cases h1
    have HS2 := Aside0.mk (fp_op (c := 3) (by
     have h1 := HS.out
     simp only [fp_opsF, HLH.out] at h1
     rwa [if_pos hcond] at h1))
    have d1 : (wrap64 (fp_errT T m 0 + 1) == fp_errT T (m + 1) 0) = true := by simpa using hcond
    clear hcond
    go_wp2_with (first | (go_at_call 61; refine (HE0.out _ (by repeat (first | exact HBR.out | apply pw_below_drewN | apply below_drew))).mono ?_; rintro e w' ⟨rfl, rfl⟩) | (go_at_call 61; refine (HE1.out _ (by repeat (first | exact HBR.out | apply pw_below_drewN | apply below_drew))).mono ?_; rintro e w' ⟨rfl, rfl⟩))
    all_goals (try go_quiet (fail))
    all_goals (try go_wp2)
    all_goals (try go_quiet (fail))
    all_goals (try go_wp2_with (first | (go_at_call 61; refine (HE1.out _ (by repeat (first | exact HBR.out | apply pw_below_drewN | apply below_drew))).mono ?_; rintro e w' ⟨rfl, rfl⟩)))
    go_region_held3 (fun W => Aside0 (Below wt.heap.size wt W)) (first | exact HBR2 | exact ⟨by repeat (first | exact HBR.out | apply pw_below_drewN | apply below_drew | apply below_alloc)⟩) (first | (refine Kd.R_append_step (Kd.int .i64) (w0 := wt) wt.heap.size (by rfl) (.tmp 112) (.tmp 113) 22 3 (.int .i64 0) 8 rfl Try.underlying22 info3 rfl (by decide) (by decide) (.slice Ao out.length co) out (3 : Int) [.int .i64 3] (fun _ => True) (fun _ => False) rfl rfl rfl (fun _ h => h.elim) (fun _ _ => trivial) (by (with_reducible repeat (first | apply Kd.R_drew | apply Kd.R_drewN)); exact HRO.out) (by repeat (first | exact HBR.out | apply pw_below_drewN | apply below_drew)) (by have := HBR.out.size; exact this) (by have := HLEN.out; omega) ?_; intro vo wo hro hbo _ _; have HRO2 := Aside0.mk hro; have HBR2 := Aside0.mk hbo; clear hro hbo))
    go_wp2
    go_roundw
    case rel => exact ⟨B', m, ch - 1, h, Ap, 0, cp, [], out ++ [3], k, rfl, rfl, ⟨HLH.out, by have := HN.out.2.1; omega, by have := HN.out.2.2.1; omega, rfl, Nat.zero_le _, Nat.zero_le _⟩, ⟨HCRH.out _ HHR.out⟩, HPR, HBR2, HRO2, HS2, ⟨by have := HLEN.out; simp; omega⟩⟩
    case measure => simp [fp_lenOf]
   | cons y p =>
    obtain ⟨n, rfl⟩ : ∃ n, np = n + 1 := ⟨p.length, by have := HN.out.2.2.2.1; simp at this; omega⟩
    have hlp : p.length = n := by have := HN.out.2.2.2.1; simp at this; omega
    obtain ⟨A', hcut, hcr⟩ := fp_tail Ap cp n y p hlp HN.out.2.2.2.2.1
    have HCR := Aside0.mk hcr
    have HLP := Aside0.mk hlp
    have d1 : decide ((0 : Int) < (n : Int) + 1) = true := decide_eq_true (by omega)
    have d3 : (0 : Int) < (n : Int) + 1 := by omega
    obtain ⟨adp, rfl, hxp⟩ := Kd.at_int HPR.out 0 (Int.le_refl _) (by omega)
    rw [show adp.add (Int.toNat 0) = adp from by simp [Addr.add], show rd (y :: p) 0 = y from rfl] at hxp
    have hxh : wt.cell? adh = some (.int .i64 x) := HXH.out
    have hxh1 := pw_cell_below HBR.out hxh
    have hxp1 := pw_cell_below HBR.out hxp
    have HN1 := Aside0.mk HN.out.2.2.1
    have HN2 := Aside0.mk HN.out.2.2.2.2.2
    have HE0 := Aside0.mk (fun W hW => HEE.out (some adh) (some adp) (m + 1) ch (n + 1) cp HN1.out HN2.out W hW)
    have HE1 := Aside0.mk (fun W hW => HEE.out B' A' m (ch - 1) n (cp - 1) (by have := HN1.out; omega) (by have := HN2.out; omega) W hW)
    have HE2 := Aside0.mk (fun W hW => HEE.out B' (some adp) m (ch - 1) (n + 1) cp (by have := HN1.out; omega) HN2.out W hW)
    have h1 := HS.out
    simp only [fp_opsF, HLH.out, HLP.out] at h1
    obtain ⟨e0, he0⟩ : ∃ e, fp_errT T (m + 1) (n + 1) = e := ⟨_, rfl⟩
    obtain ⟨e1', he1⟩ : ∃ e, fp_errT T m n = e := ⟨_, rfl⟩
    obtain ⟨e2, he2⟩ : ∃ e, fp_errT T m (n + 1) = e := ⟨_, rfl⟩
    rw [he0, he1, he2] at h1
    rw [he0] at HE0
    rw [he1] at HE1
    rw [he2] at HE2
    clear hcr hlp hxh hxp he0 he1 he2
    by_cases hxy : x = y
    ·have x1 : (x == y) = true := by simpa using hxy
     have x2 : (x != y) = false := by simpa using hxy
     by_cases h2 : e1' = e0
     ·rw [if_pos ⟨hxy, h2⟩] at h1
      have y1 : (e1' == e0) = true := by simpa using h2
      clear hxy h2
      have HS2 := Aside0.mk (fp_op (c := 1) h1)
      clear h1
      go_wp2_with (first | (go_at_call 61; refine (HE0.out _ HBR.out).mono ?_; rintro e w' ⟨rfl, rfl⟩))
      go_quiet ((first | (go_at_call 61; exact Calls.quiet_of_same ((HE1.out _ (pw_below_drewN HBR.out _)).mono (fun _ _ h => ⟨h.1, h.2.symm⟩)))))
      go_wp2
      go_region_held3 (fun W => Aside0 (Below wt.heap.size wt W)) (first | exact HBR2 | exact ⟨by repeat (first | exact HBR.out | apply pw_below_drewN | apply below_drew | apply below_alloc)⟩) (first | (refine Kd.R_append_step (Kd.int .i64) (w0 := wt) wt.heap.size (by rfl) (.tmp 62) (.tmp 63) 22 3 (.int .i64 0) 8 rfl Try.underlying22 info3 rfl (by decide) (by decide) (.slice Ao out.length co) out (1 : Int) [.int .i64 1] (fun _ => True) (fun _ => False) rfl rfl rfl (fun _ h => h.elim) (fun _ _ => trivial) (by (with_reducible repeat (first | apply Kd.R_drew | apply Kd.R_drewN)); exact HRO.out) (by repeat (first | exact HBR.out | apply pw_below_drewN | apply below_drew)) (by have := HBR.out.size; exact this) (by have := HLEN.out; omega) ?_; intro vo wo hro hbo _ _; have HRO2 := Aside0.mk hro; have HBR2 := Aside0.mk hbo; clear hro hbo))
      go_wp2
      go_roundw
      case rel => exact ⟨B', m, ch - 1, h, A', n, cp - 1, p, out ++ [1], k, rfl, rfl, ⟨HLH.out, by have := HN.out.2.1; omega, by have := HN1.out; omega, HLP.out, by have := HN.out.2.2.2.2.1; omega, by have := HN2.out; omega⟩, ⟨HCRH.out _ HHR.out⟩, ⟨HCR.out _ HPR.out⟩, HBR2, HRO2, HS2, ⟨by have := HLEN.out; simp; omega⟩⟩
      case measure => simp [fp_lenOf]; omega
     ·rw [if_neg (fun hh => h2 hh.2), if_neg (fun hh => hh.1 hxy)] at h1
      have y1 : (e1' == e0) = false := by simpa using h2
      by_cases h3 : wrap64 (e2 + 1) = e0
      ·rw [if_pos h3] at h1
       have y3 : (wrap64 (e2 + 1) == e0) = true := by simpa using h3
       clear hxy h2 h3
       have HS2 := Aside0.mk (fp_op (c := 3) h1)
       clear h1
       go_wp2_with (first | (go_at_call 61; refine (HE0.out _ HBR.out).mono ?_; rintro e w' ⟨rfl, rfl⟩))
       go_quiet ((first | (go_at_call 61; exact Calls.quiet_of_same ((HE1.out _ (pw_below_drewN HBR.out _)).mono (fun _ _ h => ⟨h.1, h.2.symm⟩)))))
       go_wp2
       have HBQ := Aside0.mk (pw_below_drewN HBR.out nq)
       have HRQ := Aside0.mk (Kd.R_drewN HRO.out nq)
       have hxh2 : (wr.drewN nq).cell? adh = some (.int .i64 x) := hxh1
       have hxp2 : (wr.drewN nq).cell? adp = some (.int .i64 y) := hxp1
       generalize wr.drewN nq = wq at HBQ HRQ hxh2 hxp2 ⊢
       go_quiet ((first | (go_at_call 61; exact Calls.quiet_of_same ((HE1.out _ (pw_below_drewN HBQ.out _)).mono (fun _ _ h => ⟨h.1, h.2.symm⟩)))))
       go_wp2_with (first | (go_at_call 61; refine (HE2.out _ (pw_below_drewN HBQ.out _)).mono ?_; rintro e w' ⟨rfl, rfl⟩))
       go_region_held3 (fun W => Aside0 (Below wt.heap.size wt W)) (first | exact HBR2 | exact ⟨by repeat (first | exact HBQ.out | apply pw_below_drewN | apply below_drew | apply below_alloc)⟩) (first | (refine Kd.R_append_step (Kd.int .i64) (w0 := wt) wt.heap.size (by rfl) (.tmp 112) (.tmp 113) 22 3 (.int .i64 0) 8 rfl Try.underlying22 info3 rfl (by decide) (by decide) (.slice Ao out.length co) out (3 : Int) [.int .i64 3] (fun _ => True) (fun _ => False) rfl rfl rfl (fun _ h => h.elim) (fun _ _ => trivial) (by (with_reducible repeat (first | apply Kd.R_drew | apply Kd.R_drewN)); exact HRQ.out) (by repeat (first | exact HBQ.out | apply pw_below_drewN | apply below_drew)) (by have := HBQ.out.size; exact this) (by have := HLEN.out; omega) ?_; intro vo wo hro hbo _ _; have HRO2 := Aside0.mk hro; have HBR2 := Aside0.mk hbo; clear hro hbo))
       go_wp2
       go_roundw
       case rel => exact ⟨B', m, ch - 1, h, some adp, n + 1, cp, y :: p, out ++ [3], k, rfl, rfl, ⟨HLH.out, by have := HN.out.2.1; omega, by have := HN1.out; omega, by simp [HLP.out], by have := HN.out.2.2.2.2.1; omega, HN2.out⟩, ⟨HCRH.out _ HHR.out⟩, HPR, HBR2, HRO2, HS2, ⟨by have := HLEN.out; simp; omega⟩⟩
       case measure => simp [fp_lenOf]
      ·rw [if_neg h3] at h1
       have y3 : (wrap64 (e2 + 1) == e0) = false := by simpa using h3
       clear hxy h2 h3
       have HS2 := Aside0.mk (fp_op (c := 4) h1)
       clear h1
       go_wp2_with (first | (go_at_call 61; refine (HE0.out _ HBR.out).mono ?_; rintro e w' ⟨rfl, rfl⟩))
       go_quiet ((first | (go_at_call 61; exact Calls.quiet_of_same ((HE1.out _ (pw_below_drewN HBR.out _)).mono (fun _ _ h => ⟨h.1, h.2.symm⟩)))))
       go_wp2
       have HBQ := Aside0.mk (pw_below_drewN HBR.out nq)
       have HRQ := Aside0.mk (Kd.R_drewN HRO.out nq)
       have hxh2 : (wr.drewN nq).cell? adh = some (.int .i64 x) := hxh1
       have hxp2 : (wr.drewN nq).cell? adp = some (.int .i64 y) := hxp1
       generalize wr.drewN nq = wq at HBQ HRQ hxh2 hxp2 ⊢
       go_quiet ((first | (go_at_call 61; exact Calls.quiet_of_same ((HE1.out _ (pw_below_drewN HBQ.out _)).mono (fun _ _ h => ⟨h.1, h.2.symm⟩)))))
       go_wp2_with (first | (go_at_call 61; refine (HE2.out _ (pw_below_drewN HBQ.out _)).mono ?_; rintro e w' ⟨rfl, rfl⟩))
       go_region_held3 (fun W => Aside0 (Below wt.heap.size wt W)) (first | exact HBR2 | exact ⟨by repeat (first | exact HBQ.out | apply pw_below_drewN | apply below_drew | apply below_alloc)⟩) (first | (refine Kd.R_append_step (Kd.int .i64) (w0 := wt) wt.heap.size (by rfl) (.tmp 36) (.tmp 37) 22 3 (.int .i64 0) 8 rfl Try.underlying22 info3 rfl (by decide) (by decide) (.slice Ao out.length co) out (4 : Int) [.int .i64 4] (fun _ => True) (fun _ => False) rfl rfl rfl (fun _ h => h.elim) (fun _ _ => trivial) (by (with_reducible repeat (first | apply Kd.R_drew | apply Kd.R_drewN)); exact HRQ.out) (by repeat (first | exact HBQ.out | apply pw_below_drewN | apply below_drew)) (by have := HBQ.out.size; exact this) (by have := HLEN.out; omega) ?_; intro vo wo hro hbo _ _; have HRO2 := Aside0.mk hro; have HBR2 := Aside0.mk hbo; clear hro hbo))
       go_wp2
       go_roundw
       case rel => exact ⟨some adh, m + 1, ch, x :: h, A', n, cp - 1, p, out ++ [4], k, rfl, rfl, ⟨by simp [HLH.out], HN.out.2.1, HN1.out, HLP.out, by have := HN.out.2.2.2.2.1; omega, by have := HN2.out; omega⟩, HHR, ⟨HCR.out _ HPR.out⟩, HBR2, HRO2, HS2, ⟨by have := HLEN.out; simp; omega⟩⟩
       case measure => simp [fp_lenOf]
    ·have x1 : (x == y) = false := by simpa using hxy
     have x2 : (x != y) = true := by simpa using hxy
     rw [if_neg (fun hh => hxy hh.1)] at h1
     by_cases h2 : wrap64 (e1' + 1) = e0
     ·rw [if_pos ⟨hxy, h2⟩] at h1
      have y1 : (wrap64 (e1' + 1) == e0) = true := by simpa using h2
      have y2 : (IntKind.i64.wrap (e1' + 1) == e0) = true := by rw [i64_w]; exact y1
      clear hxy h2
      have HS2 := Aside0.mk (fp_op (c := 2) h1)
      clear h1
      go_wp2_with (first | (go_at_call 61; refine (HE0.out _ HBR.out).mono ?_; rintro e w' ⟨rfl, rfl⟩))
      go_quiet ((first | (go_at_call 61; exact Calls.quiet_of_same ((HE1.out _ (pw_below_drewN HBR.out _)).mono (fun _ _ h => ⟨h.1, h.2.symm⟩)))))
      go_wp2
      have HBQ := Aside0.mk (pw_below_drewN HBR.out nq)
      have HRQ := Aside0.mk (Kd.R_drewN HRO.out nq)
      have hxh2 : (wr.drewN nq).cell? adh = some (.int .i64 x) := hxh1
      have hxp2 : (wr.drewN nq).cell? adp = some (.int .i64 y) := hxp1
      generalize wr.drewN nq = wq at HBQ HRQ hxh2 hxp2 ⊢
      go_quiet ((first | (go_at_call 61; exact Calls.quiet_of_same ((HE1.out _ (pw_below_drewN HBQ.out _)).mono (fun _ _ h => ⟨h.1, h.2.symm⟩)))))
      go_wp2
      go_region_held3 (fun W => Aside0 (Below wt.heap.size wt W)) (first | exact HBR2 | exact ⟨by repeat (first | exact HBQ.out | apply pw_below_drewN | apply below_drew | apply below_alloc)⟩) (first | (refine Kd.R_append_step (Kd.int .i64) (w0 := wt) wt.heap.size (by rfl) (.tmp 91) (.tmp 92) 22 3 (.int .i64 0) 8 rfl Try.underlying22 info3 rfl (by decide) (by decide) (.slice Ao out.length co) out (2 : Int) [.int .i64 2] (fun _ => True) (fun _ => False) rfl rfl rfl (fun _ h => h.elim) (fun _ _ => trivial) (by (with_reducible repeat (first | apply Kd.R_drew | apply Kd.R_drewN)); exact HRQ.out) (by repeat (first | exact HBQ.out | apply pw_below_drewN | apply below_drew)) (by have := HBQ.out.size; exact this) (by have := HLEN.out; omega) ?_; intro vo wo hro hbo _ _; have HRO2 := Aside0.mk hro; have HBR2 := Aside0.mk hbo; clear hro hbo))
      go_wp2
      go_roundw
      case rel => exact ⟨B', m, ch - 1, h, A', n, cp - 1, p, out ++ [2], k, rfl, rfl, ⟨HLH.out, by have := HN.out.2.1; omega, by have := HN1.out; omega, HLP.out, by have := HN.out.2.2.2.2.1; omega, by have := HN2.out; omega⟩, ⟨HCRH.out _ HHR.out⟩, ⟨HCR.out _ HPR.out⟩, HBR2, HRO2, HS2, ⟨by have := HLEN.out; simp; omega⟩⟩
      case measure => simp [fp_lenOf]; omega
     ·rw [if_neg (fun hh => h2 hh.2)] at h1
      have y1 : (wrap64 (e1' + 1) == e0) = false := by simpa using h2
      have y2 : (IntKind.i64.wrap (e1' + 1) == e0) = false := by rw [i64_w]; exact y1
      by_cases h3 : wrap64 (e2 + 1) = e0
      ·rw [if_pos h3] at h1
       have y3 : (wrap64 (e2 + 1) == e0) = true := by simpa using h3
       clear hxy h2 h3
       have HS2 := Aside0.mk (fp_op (c := 3) h1)
       clear h1
       go_wp2_with (first | (go_at_call 61; refine (HE0.out _ HBR.out).mono ?_; rintro e w' ⟨rfl, rfl⟩))
       go_quiet ((first | (go_at_call 61; exact Calls.quiet_of_same ((HE1.out _ (pw_below_drewN HBR.out _)).mono (fun _ _ h => ⟨h.1, h.2.symm⟩)))))
       go_wp2
       have HBQ := Aside0.mk (pw_below_drewN HBR.out nq)
       have HRQ := Aside0.mk (Kd.R_drewN HRO.out nq)
       have hxh2 : (wr.drewN nq).cell? adh = some (.int .i64 x) := hxh1
       have hxp2 : (wr.drewN nq).cell? adp = some (.int .i64 y) := hxp1
       generalize wr.drewN nq = wq at HBQ HRQ hxh2 hxp2 ⊢
       go_quiet ((first | (go_at_call 61; exact Calls.quiet_of_same ((HE1.out _ (pw_below_drewN HBQ.out _)).mono (fun _ _ h => ⟨h.1, h.2.symm⟩)))))
       go_wp2_with (first | (go_at_call 61; refine (HE2.out _ (pw_below_drewN HBQ.out _)).mono ?_; rintro e w' ⟨rfl, rfl⟩))
       go_region_held3 (fun W => Aside0 (Below wt.heap.size wt W)) (first | exact HBR2 | exact ⟨by repeat (first | exact HBQ.out | apply pw_below_drewN | apply below_drew | apply below_alloc)⟩) (first | (refine Kd.R_append_step (Kd.int .i64) (w0 := wt) wt.heap.size (by rfl) (.tmp 112) (.tmp 113) 22 3 (.int .i64 0) 8 rfl Try.underlying22 info3 rfl (by decide) (by decide) (.slice Ao out.length co) out (3 : Int) [.int .i64 3] (fun _ => True) (fun _ => False) rfl rfl rfl (fun _ h => h.elim) (fun _ _ => trivial) (by (with_reducible repeat (first | apply Kd.R_drew | apply Kd.R_drewN)); exact HRQ.out) (by repeat (first | exact HBQ.out | apply pw_below_drewN | apply below_drew)) (by have := HBQ.out.size; exact this) (by have := HLEN.out; omega) ?_; intro vo wo hro hbo _ _; have HRO2 := Aside0.mk hro; have HBR2 := Aside0.mk hbo; clear hro hbo))
       go_wp2
       go_roundw
       case rel => exact ⟨B', m, ch - 1, h, some adp, n + 1, cp, y :: p, out ++ [3], k, rfl, rfl, ⟨HLH.out, by have := HN.out.2.1; omega, by have := HN1.out; omega, by simp [HLP.out], by have := HN.out.2.2.2.2.1; omega, HN2.out⟩, ⟨HCRH.out _ HHR.out⟩, HPR, HBR2, HRO2, HS2, ⟨by have := HLEN.out; simp; omega⟩⟩
       case measure => simp [fp_lenOf]
      ·rw [if_neg h3] at h1
       have y3 : (wrap64 (e2 + 1) == e0) = false := by simpa using h3
       clear hxy h2 h3
       have HS2 := Aside0.mk (fp_op (c := 4) h1)
       clear h1
       go_wp2_with (first | (go_at_call 61; refine (HE0.out _ HBR.out).mono ?_; rintro e w' ⟨rfl, rfl⟩))
       go_quiet ((first | (go_at_call 61; exact Calls.quiet_of_same ((HE1.out _ (pw_below_drewN HBR.out _)).mono (fun _ _ h => ⟨h.1, h.2.symm⟩)))))
       go_wp2
       have HBQ := Aside0.mk (pw_below_drewN HBR.out nq)
       have HRQ := Aside0.mk (Kd.R_drewN HRO.out nq)
       have hxh2 : (wr.drewN nq).cell? adh = some (.int .i64 x) := hxh1
       have hxp2 : (wr.drewN nq).cell? adp = some (.int .i64 y) := hxp1
       generalize wr.drewN nq = wq at HBQ HRQ hxh2 hxp2 ⊢
       go_quiet ((first | (go_at_call 61; exact Calls.quiet_of_same ((HE1.out _ (pw_below_drewN HBQ.out _)).mono (fun _ _ h => ⟨h.1, h.2.symm⟩)))))
       go_wp2_with (first | (go_at_call 61; refine (HE2.out _ (pw_below_drewN HBQ.out _)).mono ?_; rintro e w' ⟨rfl, rfl⟩))
       go_region_held3 (fun W => Aside0 (Below wt.heap.size wt W)) (first | exact HBR2 | exact ⟨by repeat (first | exact HBQ.out | apply pw_below_drewN | apply below_drew | apply below_alloc)⟩) (first | (refine Kd.R_append_step (Kd.int .i64) (w0 := wt) wt.heap.size (by rfl) (.tmp 36) (.tmp 37) 22 3 (.int .i64 0) 8 rfl Try.underlying22 info3 rfl (by decide) (by decide) (.slice Ao out.length co) out (4 : Int) [.int .i64 4] (fun _ => True) (fun _ => False) rfl rfl rfl (fun _ h => h.elim) (fun _ _ => trivial) (by (with_reducible repeat (first | apply Kd.R_drew | apply Kd.R_drewN)); exact HRQ.out) (by repeat (first | exact HBQ.out | apply pw_below_drewN | apply below_drew)) (by have := HBQ.out.size; exact this) (by have := HLEN.out; omega) ?_; intro vo wo hro hbo _ _; have HRO2 := Aside0.mk hro; have HBR2 := Aside0.mk hbo; clear hro hbo))
       go_wp2
       go_roundw
       case rel => exact ⟨some adh, m + 1, ch, x :: h, A', n, cp - 1, p, out ++ [4], k, rfl, rfl, ⟨by simp [HLH.out], HN.out.2.1, HN1.out, HLP.out, by have := HN.out.2.2.2.2.1; omega, by have := HN2.out; omega⟩, HHR, ⟨HCR.out _ HPR.out⟩, HBR2, HRO2, HS2, ⟨by have := HLEN.out; simp; omega⟩⟩
       case measure => simp [fp_lenOf]
theorem fingerprint_steps.calls (A0 : Option Addr) (c0 : Nat) (l0 : List Int) (A1 : Option Addr) (c1 : Nat) (l1 : List Int) (r : List Int) (w : World) (hr0 : Kd.C (Kd.int .i64) w A0 l0.length l0) (hc0 : l0.length ≤ c0) (hr1 : Kd.C (Kd.int .i64) w A1 l1.length l1) (hc1 : l1.length ≤ c1) (h : fingerprint_steps.f l0 l1 = some r) :
  Calls Try.prog 48 #[.slice A0 l0.length c0, .slice A1 l1.length c1] w fun e w' => ∃ v0_ : Value, e = .returned v0_ ∧ Kd.R (Kd.int .i64) 3 w' w.heap.size (fun _ => True) v0_ r ∧ Below w.heap.size w w' := by
 unfold fingerprint_steps.f at h
 by_cases h0 : l0.length ≤ 1000
 ·rw [if_pos h0] at h
  by_cases h1 : l1.length ≤ 1000
  ·rw [if_pos h1] at h
   exact fp_steps A0 c0 l0 A1 c1 l1 r w hr0 hc0 hr1 hc1 h0 h1 h
  ·rw [if_neg h1] at h; cases h
 ·rw [if_neg h0] at h; cases h

end Go.Proofs.Ytgaepndbfpfniaa.PFR
