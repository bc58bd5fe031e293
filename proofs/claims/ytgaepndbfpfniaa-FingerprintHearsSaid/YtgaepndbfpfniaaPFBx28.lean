-- PRINTED by print.py (a twelfth state) out of the translation. Not trusted: Lean checks it.
import Derived.Test.YtgaepndbfpfniaaPFBx23
import Derived.Test.YtgaepndbfpfniaaPFBx0
import Derived.Test.YtgaepndbfpfniaaPFBx7
import Derived.Test.YtgaepndbfpfniaaPFBx19
import Derived.Test.YtgaepndbfpfniaaPFBx20
import Derived.Test.YtgaepndbfpfniaaPFBx21
import Derived.Test.YtgaepndbfpfniaaPFBx25
import Derived.Test.YtgaepndbfpfniaaPFBx26
import Derived.Test.YtgaepndbfpfniaaPFBx27
namespace Go.Proofs.Ytgaepndbfpfniaa.PFB
open Go.RowKit Go.Proofs.YtgaepndbfpfniaaW.PrintWords Go.Proofs.YtgaepndbfpfniaaW.PrintLast Go.Proofs.YtgaepndbfpfniaaW.PrintMore
attribute [local go_sem] max2_int min2_int max_two min_two max_three min_three max_four min_four   -- for this text's walks alone
set_option linter.unusedVariables false
set_option linter.unusedSimpArgs false

/-! ### airchecklaw36_FingerprintHears: function 7 -/
def airchecklaw36_FingerprintHears.f (k : Nat) (l0 : List (List Int)) (a1 : Int) (a2 : Int) (a3 : Int) (l4 : List (S29)) : Option (Bool) := (airchecklaw36_sane.f).bind fun t246 => (if t246 = true then ((aircheckref36_Made.f k l0).bind fun t247 => ((airchecklaw36_pick.f a1 (t247.length : Int)).bind fun t250 => (if 0 ≤ t250 then (if t250 < (t247.length : Int) then ((airchecklaw36_pick.f a2 (((rd_T34 t247 t250).f1).length : Int)).bind fun t253 => ((stop_airchecklaw36_FingerprintHears t247 ((rd_T34 t247 t250).f0) ((rd_T34 t247 t250).f1) t253 a3 l4))) else (none)) else (none)))) else (some false))
theorem airchecklaw36_FingerprintHears.mono : ∀ a0 a1 a2 a3 a4 k, LeO (airchecklaw36_FingerprintHears.f k a0 a1 a2 a3 a4) (airchecklaw36_FingerprintHears.f (k + 1) a0 a1 a2 a3 a4) := by
  intro a0 a1 a2 a3 a4 k
  unfold airchecklaw36_FingerprintHears.f
  repeat' first
      | (with_reducible exact aircheckref36_Made.mono _ _)
      | (with_reducible exact LeO.refl _)
      | (with_reducible exact LeO.none _)
      | (with_reducible refine LeO.ite ?_ ?_)
      | (with_reducible refine LeO.bind ?_ (fun _ => ?_))
      | exact aircheckref36_Made.mono _ _
      | exact LeO.none _
      | refine LeO.ite ?_ ?_
      | refine LeO.bind ?_ (fun _ => ?_)
set_option maxHeartbeats 8000000 in
set_option maxRecDepth 100000 in
theorem airchecklaw36_FingerprintHears.calls (k : Nat) (A0 : Option Addr) (c0 : Nat) (l0 : List (List Int)) (a1 : Int) (a2 : Int) (a3 : Int) (A4 : Option Addr) (c4 : Nat) (l4 : List (S29)) (r : Bool) (hr0 : Aside0 (r = true)) (w : World) (hr0 : Kd.C (Kd.slice 3 (Kd.int .i64)) w A0 l0.length l0) (hc0 : l0.length ≤ c0) (hr4 : Kd.C k29 w A4 l4.length l4) (hc4 : l4.length ≤ c4) (h : airchecklaw36_FingerprintHears.f k l0 a1 a2 a3 l4 = some r) :
    Calls Try.prog 7 #[.slice A0 l0.length c0, .int .i64 a1, .int .i64 a2, .int .i64 a3, .slice A4 l4.length c4] w fun e w' => e = .returned (.bool r) ∧ Below w.heap.size w w' := by
  have hu34 := Try.underlying34
  have hu25 := Try.underlying25
  have HR0 := Aside0.mk hr0
  have HC0 := Aside0.mk hc0
  clear hr0 hc0
  have HR4 := Aside0.mk hr4
  have HC4 := Aside0.mk hc4
  clear hr4 hc4
  have HB := Aside0.mk (Below.refl w.heap.size w)
  have H : ((airchecklaw36_sane.f).bind fun t246 => (if t246 = true then ((aircheckref36_Made.f k l0).bind fun t247 => ((airchecklaw36_pick.f a1 (t247.length : Int)).bind fun t250 => (if 0 ≤ t250 then (if t250 < (t247.length : Int) then ((airchecklaw36_pick.f a2 (((rd_T34 t247 t250).f1).length : Int)).bind fun t253 => ((stop_airchecklaw36_FingerprintHears t247 ((rd_T34 t247 t250).f0) ((rd_T34 t247 t250).f1) t253 a3 l4))) else (none)) else (none)))) else (some false))) = some r := h
  clear h
  replace H := Option.bind_eq_some_iff.mp H
  obtain ⟨t246, A60, H⟩ := H
  replace H : (if t246 = true then ((aircheckref36_Made.f k l0).bind fun t247 => ((airchecklaw36_pick.f a1 (t247.length : Int)).bind fun t250 => (if 0 ≤ t250 then (if t250 < (t247.length : Int) then ((airchecklaw36_pick.f a2 (((rd_T34 t247 t250).f1).length : Int)).bind fun t253 => ((stop_airchecklaw36_FingerprintHears t247 ((rd_T34 t247 t250).f0) ((rd_T34 t247 t250).f1) t253 a3 l4))) else (none)) else (none)))) else (some false)) = some r := H
  have A6 := Aside0.mk A60
  clear A60
  by_cases c7 : t246 = true
  · subst c7
    have H1 : ((aircheckref36_Made.f k l0).bind fun t247 => ((airchecklaw36_pick.f a1 (t247.length : Int)).bind fun t250 => (if 0 ≤ t250 then (if t250 < (t247.length : Int) then ((airchecklaw36_pick.f a2 (((rd_T34 t247 t250).f1).length : Int)).bind fun t253 => ((stop_airchecklaw36_FingerprintHears t247 ((rd_T34 t247 t250).f0) ((rd_T34 t247 t250).f1) t253 a3 l4))) else (none)) else (none)))) = some r := by rw [if_pos rfl] at H; exact H
    clear H
    have H := H1
    clear H1
    replace H := Option.bind_eq_some_iff.mp H
    obtain ⟨t247, A80, H⟩ := H
    replace H : ((airchecklaw36_pick.f a1 (t247.length : Int)).bind fun t250 => (if 0 ≤ t250 then (if t250 < (t247.length : Int) then ((airchecklaw36_pick.f a2 (((rd_T34 t247 t250).f1).length : Int)).bind fun t253 => ((stop_airchecklaw36_FingerprintHears t247 ((rd_T34 t247 t250).f0) ((rd_T34 t247 t250).f1) t253 a3 l4))) else (none)) else (none))) = some r := H
    have A8 := Aside0.mk A80
    clear A80
    replace H := Option.bind_eq_some_iff.mp H
    obtain ⟨t250, A90, H⟩ := H
    replace H : (if 0 ≤ t250 then (if t250 < (t247.length : Int) then ((airchecklaw36_pick.f a2 (((rd_T34 t247 t250).f1).length : Int)).bind fun t253 => ((stop_airchecklaw36_FingerprintHears t247 ((rd_T34 t247 t250).f0) ((rd_T34 t247 t250).f1) t253 a3 l4))) else (none)) else (none)) = some r := H
    have A9 := Aside0.mk A90
    clear A90
    by_cases c10 : 0 ≤ t250
    · rw [if_pos c10] at H
      have c10b0 : decide (0 ≤ t250) = true := decide_eq_true c10
      clear c10
      by_cases c11 : t250 < (t247.length : Int)
      · rw [if_pos c11] at H
        have c11b0 : decide (t250 < (t247.length : Int)) = true := decide_eq_true c11
        clear c11
        replace H := Option.bind_eq_some_iff.mp H
        obtain ⟨t253, A120, H⟩ := H
        replace H : ((stop_airchecklaw36_FingerprintHears t247 ((rd_T34 t247 t250).f0) ((rd_T34 t247 t250).f1) t253 a3 l4)) = some r := H
        have A12 := Aside0.mk A120
        clear A120
        obtain ⟨t, hs, kk, q, e1, hcond, e2, hk, e3, e4, er⟩ := stop_hears_inv H
        subst er
        obtain ⟨x, hx⟩ : ∃ x, rd_T34 t247 t250 = x := ⟨_, rfl⟩
        rw [hx] at e1 hcond e2 e3 e4
        obtain ⟨ka, kt, ks, kl, kp⟩ := hcond
        obtain ⟨a, rfl⟩ : ∃ a : Nat, t253 = a := ⟨t253.toNat, by omega⟩
        obtain ⟨b, hb⟩ : ∃ b : Nat, (a : Int) + 1 + t = b := ⟨((a : Int) + 1 + t).toNat, by omega⟩
        rw [hb, Int.toNat_natCast, Int.toNat_natCast] at e2 e3
        obtain ⟨part, hpart⟩ : ∃ part, part = (x.f1.take b).drop a := ⟨_, rfl⟩
        rw [← hpart] at e2 e3
        have hplen : b - a = part.length := by rw [hpart]; simp; omega
        have XX := Aside0.mk hx
        have E1 := Aside0.mk e1
        have E2 := Aside0.mk e2
        have E3 := Aside0.mk e3
        have E4 := Aside0.mk e4
        have HPART := Aside0.mk hpart
        have HPL := Aside0.mk hplen
        have HBB := Aside0.mk hb
        have A12' := A12.out
        rw [hx] at A12'
        have A12 := Aside0.mk A12'
        have k1 := of_decide_eq_true c10b0
        have k2 := of_decide_eq_true c11b0
        have K1 := Aside0.mk k1
        have K2 := Aside0.mk k2
        clear H e1 e2 e3 e4 hpart hplen hb hx A12' k1 k2 c10b0 c11b0
        go_enter Try.func7, Try.ntmps7
        go_wp2_with fail
        refine (airchecklaw36_sane.calls true w A6.out).mono ?_
        rintro e v0 ⟨rfl, hb0⟩
        go_wp2_with fail
        refine (aircheckref36_Made.calls k A0 c0 l0 t247 v0 (Kd.C_below HR0.out hb0) HC0.out A8.out).mono ?_
        rintro e v1 ⟨p_, rfl, hp, hb1⟩
        have HP1 := Aside0.mk (Kd.N_lower hp hb0.size)
        have HB1 := Aside0.mk (below_step hb0 hb1)
        obtain ⟨Ap, cp, rfl⟩ := Kd.N_slice HP1.out
        clear hp hb0 hb1
        go_wp2_with fail
        refine (airchecklaw36_pick.calls a1 (t247.length : Int) t250 _ A9.out).mono ?_
        rintro e v2 ⟨rfl, hd2⟩
        have HP2 := Aside0.mk (Kd.N_below HP1.out hd2.below)
        have HB2 := Aside0.mk (below_step HB1.out hd2.below)
        clear hd2 HP1 HB1
        have k1 := K1.out
        have k2 := K2.out
        obtain ⟨ad, A1, c1, rfl, hx0, hx1, hx2, hx3⟩ := at_T34 (Kd.N_reads' HP2.out).2.2 t250 k1 k2
        rw [XX.out] at hx0 hx1 hx2 hx3
        have HX2 := Aside0.mk hx2
        have HX3 := Aside0.mk hx3
        clear hx2 hx3
        go_wp2_with fail
        refine (airchecklaw36_pick.calls a2 (x.f1.length : Int) (a : Int) _ A12.out).mono ?_
        rintro e v3 ⟨rfl, hd3⟩
        have hb3 : Below v2.heap.size v2 v3 := below_step (below_alloc (Below.refl _ _) _) hd3.below
        have hbx := blk_below (World.alloc_heap_new v2 (.cells #[.int .i64 x.f0, .slice A1 x.f1.length c1] 34)) hd3.below
        have HBX3 := Aside0.mk hbx
        have HP3 := Aside0.mk (Kd.N_below HP2.out hb3)
        have HB3 := Aside0.mk (below_step HB2.out hb3)
        have HXC3 := Aside0.mk (Kd.C_below HX3.out hb3)
        have HSZ := Aside0.mk HB2.out.size
        have y1 : v3.cell? ⟨v2.heap.size, 1, none⟩ = some (.slice A1 x.f1.length c1) := (blk_cell hbx 1).trans rfl
        obtain ⟨A2, hA2⟩ : ∃ A2, (if c1 = a then A1 else A1.map (·.add (a * 1))) = A2 := ⟨_, rfl⟩
        have hb' := HBB.out
        have q1 := hears_cut A1 x.f1.length c1 a b part.length (by omega) (by omega) HX2.out HPL.out
        rw [hA2] at q1
        have HA2 := Aside0.mk hA2
        have hw1 : IntKind.i64.wrap ((a : Int) + 1) = (a : Int) + 1 := IntWalk.i64_in _ (by omega)
        have hw2 : IntKind.i64.wrap ((x.f1.length : Int) - a) = (x.f1.length : Int) - a := IntWalk.i64_in _ (by omega)
        have hw3 : IntKind.i64.wrap ((a : Int) + 1 + t) = (b : Int) := by rw [IntWalk.i64_in _ (by omega)]; exact hb'
        clear hb3 hbx HP2 HB2 HX3 hd3 hA2 hb' hx0 hx1 k1 k2
        go_wp2_with fail
        go_region_held3 (fun W => W.cell? ⟨v2.heap.size, 1, none⟩ = some (.slice A1 x.f1.length c1)) (first | assumption | exact y1) (first | (go_at_call 33; refine (airchecklaw36_pick.calls a3 ((x.f1.length : Int) - a) t _ E1.out).mono ?_; rintro e v4 ⟨rfl, hd4⟩; have hy4 : v4.cell? ⟨v2.heap.size, 1, none⟩ = some (.slice A1 x.f1.length c1) := pw_cell_below hd4.below (by assumption); have hb4 : Below v3.heap.size v3 v4 := below_step (by first | exact Below.refl _ _ | exact below_drew (Below.refl _ _)) hd4.below; have HB4_ := Aside0.mk hb4; clear hd4 hb4))
        clear q1 hw1 hw2 hw3 y1
        go_wp2_with fail
        have hC4 := hears_C (Kd.C_below HXC3.out HB4_.out) (a := a) (b := b) (by have := HPL.out; have := HBB.out; omega) (by have := HBB.out; omega) HX2.out
        rw [HA2.out, ← HPART.out] at hC4
        have HC4_ := Aside0.mk hC4
        have HP4 := Aside0.mk (Kd.N_below HP3.out HB4_.out)
        have HBX4 := Aside0.mk (blk_below HBX3.out HB4_.out)
        have HB4 := Aside0.mk (below_step HB3.out HB4_.out)
        clear hC4 HP3 HBX3 HB3 HXC3 HB4_
        refine (aircheckref36_Spoiled.calls A2 (c1 - a) part A4 c4 l4 hs kk _ HC4_.out (by have := HPL.out; have := HBB.out; have := HX2.out; omega) (Kd.C_below HR4.out HB4.out) HC4.out E2.out).mono ?_
        rintro e v5 ⟨vh, rfl, hvh, hb5⟩
        obtain ⟨Ah, ch, rfl⟩ := Kd.V_slice hvh
        have HV5 := Aside0.mk (Kd.V_mono (ok' := fun _ => True) hvh (fun _ _ => trivial))
        have HC5 := Aside0.mk (Kd.C_below HC4_.out hb5)
        have HP5 := Aside0.mk (Kd.N_below HP4.out hb5)
        have HBX5 := Aside0.mk (blk_below HBX4.out hb5)
        have HB5 := Aside0.mk (below_step HB4.out hb5)
        have HCL := Aside0.mk (show part.length ≤ c1 - a by have := HPL.out; have := HBB.out; have := HX2.out; omega)
        clear hvh hb5 HC4_ HP4 HBX4 HB4
        go_wp2
        go_loopw [18] (fun p wr => ∃ j : Nat, j ≤ t247.length ∧ p = .int .i64 j ∧ Aside0 (fp_hloop part x.f0 kk (t247.drop j) = some q) ∧ Aside0 (Kd.N k34 34 wr w.heap.size (fun _ => True) (.slice (some ad) t247.length cp) t247) ∧ Aside0 (Kd.V (Kd.int .i64) 3 wr v4.heap.size (fun _ => True) (.slice Ah hs.length ch) hs) ∧ Aside0 (Kd.C (Kd.int .i64) wr A2 part.length part) ∧ Aside0 (wr.heap[v2.heap.size]? = some (.cells #[.int .i64 x.f0, .slice A1 x.f1.length c1] 34 (0, 0))) ∧ Aside0 (Below w.heap.size w wr)) (fun p _ => t247.length - (intOf p).toNat)
        case atStart => exact ⟨0, Nat.zero_le _, rfl, E3, ⟨Kd.N_mono HP5.out (fun _ _ => trivial)⟩, HV5, HC5, HBX5, HB5⟩
        case round => as_aux_lemma =>
          clear HP5 HV5 HC5 HBX5 HB5 E3
          obtain ⟨j, hj, rfl, HF, HPR, HVR, HCR, HXR, HBR⟩ := hrel
          by_cases hlt : j < t247.length
          · obtain ⟨n, g1, g2⟩ := hloop_step hlt HF.out
            have i1 : (j : Int) < t247.length := by omega
            have i3 : (0 : Int) ≤ j := by omega
            obtain ⟨y, hy⟩ : ∃ y, rd_T34 t247 (j : Int) = y := ⟨_, rfl⟩
            obtain ⟨ad', B1, d1, ead, hy0, hy1, hy2, hy3⟩ := at_T34 (Kd.N_reads' HPR.out).2.2 (j : Int) i3 i1
            cases ead
            rw [hy] at g1 g2 hy0 hy1 hy2 hy3
            rw [Int.toNat_natCast] at hy0 hy1
            have G1 := Aside0.mk g1
            have G2 := Aside0.mk g2
            have HY0 := Aside0.mk hy0
            have HY2 := Aside0.mk hy2
            have HY3 := Aside0.mk hy3
            clear g1 g2 hy hy2 hy3 hy0
            go_wp2_with fail
            refine (fingerprint_Cost.calls 100000 A2 (c1 - a) part B1 d1 y.f1 n 0 _ HCR.out HCL.out HY3.out HY2.out G1.out).mono ?_
            rintro e w1 ⟨rfl, hb⟩
            have z0 := pw_cell_below hb HY0.out
            have u0 : w1.cell? ⟨v2.heap.size, 0, none⟩ = some (.int .i64 x.f0) := (blk_cell (blk_below HXR.out hb) 0).trans rfl
            have HP6 := Aside0.mk (Kd.N_below HPR.out hb)
            have HV6 := Aside0.mk (Kd.V_below HVR.out hb)
            have HC6 := Aside0.mk (Kd.C_below HCR.out hb)
            have HX6 := Aside0.mk (blk_below HXR.out hb)
            have HB6 := Aside0.mk (below_step HBR.out hb)
            clear hb hy1 HPR HVR HCR HXR HBR HF G1 HY0 HY2 HY3
            go_wp2
            have hw : IntKind.i64.wrap (2 * kk) = 2 * kk := IntWalk.i64_in _ (by omega)
            rcases G2.out with ⟨⟨hne, hle⟩, hq⟩ | ⟨hno, hrest⟩
            · have t1 : (y.f0 != x.f0) = true := by simpa using hne
              have t2 : decide (n ≤ 2 * kk) = true := decide_eq_true hle
              clear G2 hq
              go_quiet (fail)
              go_wp2
              go_ret
              exact ⟨rfl, pw_below_drewN HB6.out _⟩
            · have G3 := Aside0.mk hrest
              clear G2 hrest
              by_cases he : y.f0 = x.f0
              · have t1 : (y.f0 != x.f0) = false := by simpa using he
                clear hno he
                go_quiet (fail)
                go_wp2
                go_roundw
                case rel => exact ⟨j + 1, by omega, by go_num, G3, ⟨Kd.N_drewN HP6.out _⟩, ⟨Kd.V_drewN HV6.out _⟩, ⟨Kd.C_drewN HC6.out _⟩, ⟨blk_drewN HX6.out _⟩, ⟨pw_below_drewN HB6.out _⟩⟩
                case measure => simp [intOf]; omega
              · have t1 : (y.f0 != x.f0) = true := by simpa using he
                have t2 : decide (n ≤ 2 * kk) = false := decide_eq_false (fun h => hno ⟨he, h⟩)
                clear hno he
                go_quiet (fail)
                go_wp2
                go_roundw
                case rel => exact ⟨j + 1, by omega, by go_num, G3, ⟨Kd.N_drewN HP6.out _⟩, ⟨Kd.V_drewN HV6.out _⟩, ⟨Kd.C_drewN HC6.out _⟩, ⟨blk_drewN HX6.out _⟩, ⟨pw_below_drewN HB6.out _⟩⟩
                case measure => simp [intOf]; omega
          · have hF := HF.out
            rw [List.drop_eq_nil_of_le (by omega)] at hF
            have hq : q = false := (Option.some.inj hF).symm
            rcases E4.out with e | ⟨_, b1, b2, b3, b4, b5, b6, eb, hit, hle, hor⟩
            · rw [e] at hq; cases hq
            · subst hit
              have EB := Aside0.mk eb
              have HOR := Aside0.mk hor
              have HU := Aside0.mk (show wr.cell? ⟨v2.heap.size, 0, none⟩ = some (.int .i64 x.f0) from (blk_cell HXR.out 0).trans rfl)
              have i9 : decide ((j : Int) < (t247.length : Int)) = false := decide_eq_false (by omega)
              clear eb hor hq hF HF
              go_wp2_with fail
              refine (fingerprint_Best.calls 100000 (some ad) cp t247 Ah ch hs x.f0 b2 b3 b4 b5 b6 0 _ (Kd.N_reads' HPR.out).2.2 (Kd.N_reads' HPR.out).2.1 (Kd.V_reads' HVR.out).2.2 (Kd.V_reads' HVR.out).2.1 EB.out).mono ?_
              rintro e w2 ⟨vb, rfl, hrb, hb⟩
              obtain ⟨Ab, cb, rfl⟩ := Kd.R_slice hrb
              have hba : Below w2.heap.size w2 (w2.alloc (.cells #[.int .i64 x.f0, .int .i64 b2, .int .i64 b3, .int .i64 b4, .slice Ab b5.length cb] 25)) := below_alloc (Below.refl _ _) _
              have u1 := pw_cell_below hba (pw_cell_below hb HU.out)
              have HBF := Aside0.mk (below_step (below_step HBR.out hb) hba)
              have t4 : decide (b4 ≤ kk) = true := decide_eq_true hle
              clear hb hba hrb
              rcases HOR.out with ⟨o1, o2⟩ | ⟨o1, o2⟩
              · subst o2
                have t5 : ((t247.length : Int) == 1) = true := by simp; omega
                clear o1 HOR
                go_wp2
                go_ret
                exact ⟨rfl, HBF.out⟩
              · have t5 : ((t247.length : Int) == 1) = false := by simp; omega
                have t6 : decide ((1 : Int) < (t247.length : Int)) = true := decide_eq_true (by omega)
                have t7 : decide (kk < b6) = true := decide_eq_true o2
                clear o1 HOR
                go_wp2
                go_ret
                exact ⟨rfl, HBF.out⟩
      · rw [if_neg c11] at H
        exact absurd H (by simp)
    · rw [if_neg c10] at H
      exact absurd H (by simp)
  · replace c7 := Bool.eq_false_iff.mpr c7
    subst c7
    have H1 : (some false) = some r := by rw [if_neg (show ¬ (false = true) by decide)] at H; exact H
    exact absurd (Option.some.inj H1) (by rw [hr0.out]; exact Bool.false_ne_true)
/-- THE ONE PURE STATEMENT of airchecklaw36_FingerprintHears. -/
def airchecklaw36_FingerprintHears.Pure : Prop := ∀ (l0 : List (List Int)) (a1 : Int) (a2 : Int) (a3 : Int) (l4 : List (S29)), (l0.length ≤ maxLen ∧ l0.length * 24 ≤ 140737488351232 ∧ ∀ x ∈ l0, (fun x => (x.length ≤ maxLen ∧ x.length * 8 ≤ 140737488351232 ∧ ∀ y ∈ x, (fun y => (Lit.int .i64 y).wf = true) y)) x) → (Lit.int .i64 a1).wf = true → (Lit.int .i64 a2).wf = true → (Lit.int .i64 a3).wf = true → (l4.length ≤ maxLen ∧ l4.length * 24 ≤ 140737488351232 ∧ ∀ x ∈ l4, (fun x => Q29 x) x) → ∃ k, airchecklaw36_FingerprintHears.f k l0 a1 a2 a3 l4 = some true
theorem airchecklaw36_FingerprintHears.walk : True := trivial

end Go.Proofs.Ytgaepndbfpfniaa.PFB
