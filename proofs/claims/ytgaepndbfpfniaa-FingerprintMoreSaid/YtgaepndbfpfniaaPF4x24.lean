-- PRINTED by print.py (a twelfth state) out of the translation. Not trusted: Lean checks it.
import Derived.Test.YtgaepndbfpfniaaPF4x0
import Derived.Test.YtgaepndbfpfniaaPF4x7
import Derived.Test.YtgaepndbfpfniaaPF4x13
import Derived.Test.YtgaepndbfpfniaaPF4x17
import Derived.Test.YtgaepndbfpfniaaPF4x19
import Derived.Test.YtgaepndbfpfniaaPF4x20
import Derived.Test.YtgaepndbfpfniaaPF4x21
import Derived.Test.YtgaepndbfpfniaaPF4x23
import Derived.RangeFuncNested
import Derived.RangeFuncBound
import Derived.RangeFuncCalls
import Derived.RangeFuncLeaves
import Derived.RangeFuncBox
import Derived.Shelf.Abstract
import Derived.Shelf.RegionOpen
import Derived.OwnWalkIn
import Derived.TacticsInMore
import Derived.LoopNIn
import Derived.LoopIn
import Derived.OneCell
import Derived.BigQuiet
import Derived.Deep.RegionWith
import Derived.Deep.RegionHeld3
import Derived.Deep.RegionLaw
import Derived.IntWalk
import Derived.Lib.SliceRun
namespace Go.Proofs.Ytgaepndbfpfniaa.PF4
open Go.RowKit Go.Proofs.YtgaepndbfpfniaaW.PrintWords Go.Proofs.YtgaepndbfpfniaaW.PrintLast Go.Proofs.YtgaepndbfpfniaaW.PrintMore
attribute [local go_sem] max2_int min2_int max_two min_two max_three min_three max_four min_four   -- for this text's walks alone
set_option linter.unusedVariables false
set_option linter.unusedSimpArgs false

attribute [local go_sem] Oper.semAt_some
open Go.Shelf
-- given by hand: fp16
def fp_moreE (k : Nat) (a b : Int × Int × Int × Int × List Int × Int × Int) (n : Int × Int) : Option Bool :=
  if a.2.2.2.2.2.2 = 0 ∧ b.2.2.2.2.2.2 = 0 ∧ n.2 = 0 ∧ b.2.2.2.1 = mn a.2.2.2.1 n.1 ∧ b.2.2.2.1 ≤ b.2.2.2.2.2.1 then
    if n.1 < a.2.2.2.1 then if b.1 = 100 then some true else none
    else (aircheckref36_Same.f k a.1 a.2.1 a.2.2.1 a.2.2.2.1 a.2.2.2.2.1 b.1 b.2.1 b.2.2.1 b.2.2.2.1 b.2.2.2.2.1).bind fun s => if s = true then some true else none
  else none
def airchecklaw36_FingerprintMore.f (k : Nat) (l0 : List (List Int)) (l1 l2 : List Int) : Option Bool :=
  (airchecklaw36_sane.f).bind fun t => if t = true then (aircheckref36_Made.f k l0).bind fun P => if P.length ≤ 1000 then (aircheckref36_Codes2.f k l1).bind fun h => (aircheckref36_Codes.f k l2).bind fun c =>
    (fingerprint_Best.f k P h).bind fun a => (fingerprint_Best.f k (P ++ [(⟨100, c⟩ : S34)]) h).bind fun b => (fingerprint_Cost.f k h c).bind fun n => fp_moreE k a b n else none else none
theorem fp_moreF {k : Nat} {l0 : List (List Int)} {l1 l2 : List Int} {r : Bool} (h : airchecklaw36_FingerprintMore.f k l0 l1 l2 = some r) :
    ∃ P hs cs a b n, P.length ≤ 1000 ∧ aircheckref36_Made.f k l0 = some P ∧ aircheckref36_Codes2.f k l1 = some hs ∧ aircheckref36_Codes.f k l2 = some cs ∧ fingerprint_Best.f k P hs = some a ∧ fingerprint_Best.f k (P ++ [(⟨100, cs⟩ : S34)]) hs = some b ∧ fingerprint_Cost.f k hs cs = some n ∧ fp_moreE k a b n = some true ∧ r = true := by
  unfold airchecklaw36_FingerprintMore.f airchecklaw36_sane.f at h
  rw [Option.bind_some, if_pos rfl] at h
  obtain ⟨P, e1, h⟩ := Option.bind_eq_some_iff.1 h
  split at h
  next hP =>
    obtain ⟨hs, e2, h⟩ := Option.bind_eq_some_iff.1 h
    obtain ⟨cs, e3, h⟩ := Option.bind_eq_some_iff.1 h
    obtain ⟨a, e4, h⟩ := Option.bind_eq_some_iff.1 h
    obtain ⟨b, e5, h⟩ := Option.bind_eq_some_iff.1 h
    obtain ⟨n, e6, h⟩ := Option.bind_eq_some_iff.1 h
    have hr : r = true := by
      have h2 := h
      unfold fp_moreE at h2
      split at h2
      · split at h2
        · split at h2
          · exact (Option.some.inj h2).symm
          · cases h2
        · obtain ⟨s, _, h3⟩ := Option.bind_eq_some_iff.1 h2
          split at h3
          · exact (Option.some.inj h3).symm
          · cases h3
      · cases h2
    subst hr
    exact ⟨P, hs, cs, a, b, n, hP, e1, e2, e3, e4, e5, e6, h, rfl⟩
  next hP => cases h
theorem fp_moreE_inv {k : Nat} {a1 a2 a3 a4 : Int} {a5 : List Int} {a6 a7 b1 b2 b3 b4 : Int} {b5 : List Int} {b6 b7 n1 n2 : Int} (h : fp_moreE k (a1, a2, a3, a4, a5, a6, a7) (b1, b2, b3, b4, b5, b6, b7) (n1, n2) = some true) :
    (a7 = 0 ∧ b7 = 0 ∧ n2 = 0 ∧ b4 = mn a4 n1 ∧ b4 ≤ b6) ∧ (n1 < a4 ∧ b1 = 100 ∨ ¬ n1 < a4 ∧ aircheckref36_Same.f k a1 a2 a3 a4 a5 b1 b2 b3 b4 b5 = some true) := by
  unfold fp_moreE at h
  split at h
  next c =>
    refine ⟨c, ?_⟩
    split at h
    next c1 => split at h
               next c2 => exact .inl ⟨c1, c2⟩
               next c2 => cases h
    next c1 =>
      obtain ⟨s, e, h⟩ := Option.bind_eq_some_iff.1 h
      split at h
      next c2 => subst c2; exact .inr ⟨c1, e⟩
      next c2 => cases h
  next c => cases h
set_option maxHeartbeats 4000000 in
set_option maxRecDepth 100000 in
theorem airchecklaw36_FingerprintMore.calls (k : Nat) (A0 : Option Addr) (c0 : Nat) (l0 : List (List Int)) (A1 : Option Addr) (c1 : Nat) (l1 : List Int) (A2 : Option Addr) (c2 : Nat) (l2 : List Int) (r : Bool) (hz0 : Aside0 (r = true)) (w : World) (hr0 : Kd.C (Kd.slice 3 (Kd.int .i64)) w A0 l0.length l0) (hc0 : l0.length ≤ c0) (hr1 : Kd.C (Kd.int .i64) w A1 l1.length l1) (hc1 : l1.length ≤ c1) (hr2 : Kd.C (Kd.int .i64) w A2 l2.length l2) (hc2 : l2.length ≤ c2) (h : airchecklaw36_FingerprintMore.f k l0 l1 l2 = some r) :
    Calls Try.prog 9 #[.slice A0 l0.length c0, .slice A1 l1.length c1, .slice A2 l2.length c2] w fun e w' => e = .returned (.bool r) ∧ Below w.heap.size w w' := by
  have HB := Aside0.mk (Below.refl w.heap.size w)
  obtain ⟨P, hs, cs, a, b, n, eP, e1, e2, e3, e4, e5, e6, e7, er⟩ := fp_moreF h
  have hpl : (P.length + 1) * 32 ≤ 140737488355328 := by omega
  have HPL := Aside0.mk hpl
  clear hpl eP
  subst er
  have E1 := Aside0.mk e1
  have E2 := Aside0.mk e2
  have E3 := Aside0.mk e3
  have E4 := Aside0.mk e4
  obtain ⟨Q, hQ⟩ : ∃ Q, Q = P ++ [(⟨100, cs⟩ : S34)] := ⟨_, rfl⟩
  rw [← hQ] at e5
  have HQQ := Aside0.mk hQ
  clear hQ
  have E5 := Aside0.mk e5
  have E6 := Aside0.mk e6
  have E7 := Aside0.mk e7
  have HR0 := Aside0.mk hr0
  have HR1 := Aside0.mk hr1
  have HR2 := Aside0.mk hr2
  have HC0 := Aside0.mk hc0
  have HC1 := Aside0.mk hc1
  have HC2 := Aside0.mk hc2
  clear h e1 e2 e3 e4 e5 e6 e7 hr0 hr1 hr2 hc0 hc1 hc2
  go_enter Try.func9, Try.ntmps9
  go_wp2_with fail
  refine (airchecklaw36_sane.calls true w rfl).mono ?_
  rintro e v0 ⟨rfl, hb0⟩
  go_wp2_with fail
  refine (aircheckref36_Made.calls k A0 c0 l0 P v0 (Kd.C_below HR0.out hb0) HC0.out E1.out).mono ?_
  rintro e v1 ⟨p_, rfl, hp, hb1⟩
  have HP := Aside0.mk (Kd.N_lower hp hb0.size)
  have HB1 := Aside0.mk (below_step hb0 hb1)
  clear hp hb0 hb1
  go_wp2_with fail
  refine (aircheckref36_Codes2.calls k A1 c1 l1 hs v1 (Kd.C_below HR1.out HB1.out) HC1.out E2.out).mono ?_
  rintro e v2 ⟨h_, rfl, hh, hb2⟩
  have HP_ := Aside0.mk (Kd.N_elder' HP.out (Kd.R_base hh) hb2)
  have HH := Aside0.mk (Kd.R_lower hh HB1.out.size)
  have HB2 := Aside0.mk (below_step HB1.out hb2)
  clear HP HB1 hb2 hh
  go_wp2_with fail
  refine (aircheckref36_Codes.calls k A2 c2 l2 cs v2 (Kd.C_below HR2.out HB2.out) HC2.out E3.out).mono ?_
  rintro e v3 ⟨c_, rfl, hc, hb3⟩
  have HP3 := Aside0.mk (Kd.N_mono (ok' := fun _ => True) (Kd.N_elder' HP_.out (Kd.R_base hc) hb3) (fun _ _ => trivial))
  have HH3 := Aside0.mk (Kd.R_below HH.out hb3)
  have HC3 := Aside0.mk (Kd.R_lower hc HB2.out.size)
  have HB3 := Aside0.mk (below_step HB2.out hb3)
  clear HP_ HH HB2 hb3 hc
  obtain ⟨Ap, cp, rfl⟩ := Kd.N_slice HP3.out
  obtain ⟨Ah, ch, rfl⟩ := Kd.R_slice HH3.out
  obtain ⟨Ac, cc, rfl⟩ := Kd.R_slice HC3.out
  obtain ⟨a1, a2, a3, a4, a5, a6, a7⟩ := a
  obtain ⟨b1, b2, b3, b4, b5, b6, b7⟩ := b
  obtain ⟨n1, n2⟩ := n
  obtain ⟨⟨ta, tb, tc, td, te⟩, hfin⟩ := fp_moreE_inv E7.out
  subst ta tb tc
  clear E7
  have TD := Aside0.mk td
  have TE := Aside0.mk te
  have FIN := Aside0.mk hfin
  clear td te hfin
  go_wp2_with fail
  refine (fingerprint_Best.calls k Ap cp P Ah ch hs a1 a2 a3 a4 a5 a6 0 _ (Kd.N_reads' HP3.out).2.2 (Kd.N_reads' HP3.out).2.1 (Kd.R_reads' HH3.out).2.2 (Kd.R_reads' HH3.out).2.1 E4.out).mono ?_
  rintro e v4 ⟨va, rfl, hra, hb4⟩
  obtain ⟨Aa, ca, rfl⟩ := Kd.R_slice hra
  have hb4 : Below v3.heap.size v3 (v4.alloc (.cells #[.int .i64 a1, .int .i64 a2, .int .i64 a3, .int .i64 a4, .slice Aa a5.length ca] 25)) := below_alloc hb4 _
  have hxa := World.alloc_heap_new v4 (.cells #[.int .i64 a1, .int .i64 a2, .int .i64 a3, .int .i64 a4, .slice Aa a5.length ca] 25)
  have HRA := Aside0.mk (Kd.R_below hra (below_alloc (Below.refl _ _) (.cells #[.int .i64 a1, .int .i64 a2, .int .i64 a3, .int .i64 a4, .slice Aa a5.length ca] 25)))
  have HXA := Aside0.mk hxa
  have HP4 := Aside0.mk (Kd.N_below HP3.out hb4)
  have HH4 := Aside0.mk (Kd.R_below HH3.out hb4)
  have HC4 := Aside0.mk (Kd.R_below HC3.out hb4)
  have HB4 := Aside0.mk (below_step HB3.out hb4)
  clear HP3 HH3 HC3 HB3 hb4 hra hxa E4
  go_wp2_with (at_builtin; refine Kd.N_append k34 (w0 := w) w.heap.size rfl (.tmp 36) (.tmp 39) 23 34 (.agg #[.int .i64 0, .slice none 0 0]) 32 rfl Try.underlying23 info34 rfl (by decide) (by omega) (.slice Ap P.length cp) P ⟨100, cs⟩ [.int .i64 100, .slice Ac cs.length cc] (fun _ => True) (fun k => True ∧ some k ≠ (Value.slice Ap P.length cp).ownBlock) rfl (by rw [World.size_alloc]; rfl) (k34_mkF _ _ ⟨100, cs⟩ (Kd.R_reads' HC4.out).2.1 (Kd.R_F (Kd.R_apart' (Kd.R_mono (ok' := fun _ => True) HC4.out (fun _ _ => trivial)) (Kd.N_typed HP4.out) (by decide)))) (fun _ h => h) (fun _ _ => trivial) HP4.out HB4.out HB4.out.size HPL.out ?_; intro vq w5 hq hb5 hg5 _; rw [← HQQ.out] at hq; have HQ := Aside0.mk hq; have HB5 := Aside0.mk hb5; have HXA5 := Aside0.mk (blk_grown HXA.out hg5 (fun e => by obtain ⟨cells, hcc⟩ := Kd.N_typed HP4.out _ e.symm; exact absurd (blk_ne HXA.out hcc (by decide)) (fun h => h rfl))); have HH5 := Aside0.mk (Kd.R_grown (Kd.R_apart' (Kd.R_mono (ok' := fun _ => True) HH4.out (fun _ _ => trivial)) (Kd.N_typed HP4.out) (by decide)) hg5 (fun _ h => h.2)); have HC5 := Aside0.mk (Kd.R_grown (Kd.R_apart' (Kd.R_mono (ok' := fun _ => True) HC4.out (fun _ _ => trivial)) (Kd.N_typed HP4.out) (by decide)) hg5 (fun _ h => h.2)); have HRA5 := Aside0.mk (Kd.R_grown (Kd.R_apart' (Kd.R_mono (ok' := fun _ => True) HRA.out (fun _ _ => trivial)) (Kd.N_typed HP4.out) (by decide)) hg5 (fun _ h => h.2)); clear hq hb5 hg5 HP4 HH4 HC4 HB4 HXA HRA; obtain ⟨Aq, cq, eq⟩ := Kd.N_slice HQ.out; subst eq)
  refine (fingerprint_Best.calls k Aq cq Q Ah ch hs b1 b2 b3 b4 b5 b6 0 _ (Kd.N_reads' HQ.out).2.2 (Kd.N_reads' HQ.out).2.1 (Kd.R_reads' HH5.out).2.2 (Kd.R_reads' HH5.out).2.1 E5.out).mono ?_
  rintro e v6 ⟨vb, rfl, hrb, hb6⟩
  obtain ⟨Ab, cb, rfl⟩ := Kd.R_slice hrb
  have hb6 : Below w5.heap.size w5 (v6.alloc (.cells #[.int .i64 b1, .int .i64 b2, .int .i64 b3, .int .i64 b4, .slice Ab b5.length cb] 25)) := below_alloc hb6 _
  have hxb := World.alloc_heap_new v6 (.cells #[.int .i64 b1, .int .i64 b2, .int .i64 b3, .int .i64 b4, .slice Ab b5.length cb] 25)
  have HRB := Aside0.mk (Kd.R_below hrb (below_alloc (Below.refl _ _) (.cells #[.int .i64 b1, .int .i64 b2, .int .i64 b3, .int .i64 b4, .slice Ab b5.length cb] 25)))
  have HXB := Aside0.mk hxb
  have HXA6 := Aside0.mk (blk_below HXA5.out hb6)
  have HRA6 := Aside0.mk (Kd.R_below HRA5.out hb6)
  have HH6 := Aside0.mk (Kd.R_below HH5.out hb6)
  have HC6 := Aside0.mk (Kd.R_below HC5.out hb6)
  have HB6 := Aside0.mk (below_step HB5.out hb6)
  clear HXA5 HRA5 HH5 HC5 HB5 hb6 hrb hxb HQ E5
  go_wp2_with fail
  refine (fingerprint_Cost.calls k Ah ch hs Ac cc cs n1 0 _ (Kd.R_reads' HH6.out).2.2 (Kd.R_reads' HH6.out).2.1 (Kd.R_reads' HC6.out).2.2 (Kd.R_reads' HC6.out).2.1 E6.out).mono ?_
  rintro e v7 ⟨rfl, hb7⟩
  have HXA7 := Aside0.mk (blk_below HXA6.out hb7)
  have HXB7 := Aside0.mk (blk_below HXB.out hb7)
  have HRA7 := Aside0.mk (Kd.R_below HRA6.out hb7)
  have HRB7 := Aside0.mk (Kd.R_below HRB.out hb7)
  have HB7 := Aside0.mk (below_step HB6.out hb7)
  clear HXA6 HXB HRA6 HRB HB6 hb7 E6 HH6 HC6
  rcases FIN.out with ⟨h1, h2⟩ | ⟨h1, h2⟩
  · have e4 : b4 = n1 := TD.out.trans (if_pos h1)
    subst h2 e4
    have x0 : v7.cell? ⟨v4.heap.size, 0, none⟩ = some (.int .i64 a1) := (blk_cell HXA7.out 0).trans rfl
    have x1 : v7.cell? ⟨v4.heap.size, 1, none⟩ = some (.int .i64 a2) := (blk_cell HXA7.out 1).trans rfl
    have x2 : v7.cell? ⟨v4.heap.size, 2, none⟩ = some (.int .i64 a3) := (blk_cell HXA7.out 2).trans rfl
    have x3 : v7.cell? ⟨v4.heap.size, 3, none⟩ = some (.int .i64 a4) := (blk_cell HXA7.out 3).trans rfl
    have x4 : v7.cell? ⟨v4.heap.size, 4, none⟩ = some (.slice Aa a5.length ca) := (blk_cell HXA7.out 4).trans rfl
    have y0 : v7.cell? ⟨v6.heap.size, 0, none⟩ = some (.int .i64 100) := (blk_cell HXB7.out 0).trans rfl
    have y1 : v7.cell? ⟨v6.heap.size, 1, none⟩ = some (.int .i64 b2) := (blk_cell HXB7.out 1).trans rfl
    have y2 : v7.cell? ⟨v6.heap.size, 2, none⟩ = some (.int .i64 b3) := (blk_cell HXB7.out 2).trans rfl
    have y3 : v7.cell? ⟨v6.heap.size, 3, none⟩ = some (.int .i64 b4) := (blk_cell HXB7.out 3).trans rfl
    have y4 : v7.cell? ⟨v6.heap.size, 4, none⟩ = some (.slice Ab b5.length cb) := (blk_cell HXB7.out 4).trans rfl
    have t1 : decide (b6 < b4) = false := decide_eq_false (by have := TE.out; omega)
    have t1' : b4 ≤ b6 := TE.out
    have t2 : decide (b4 < a4) = true := decide_eq_true h1
    clear FIN TD
    go_wp2
    go_ret
    exact ⟨rfl, HB7.out⟩
  · have e4 : b4 = a4 := TD.out.trans (if_neg (by omega))
    subst e4
    have x0 : v7.cell? ⟨v4.heap.size, 0, none⟩ = some (.int .i64 a1) := (blk_cell HXA7.out 0).trans rfl
    have x1 : v7.cell? ⟨v4.heap.size, 1, none⟩ = some (.int .i64 a2) := (blk_cell HXA7.out 1).trans rfl
    have x2 : v7.cell? ⟨v4.heap.size, 2, none⟩ = some (.int .i64 a3) := (blk_cell HXA7.out 2).trans rfl
    have x3 : v7.cell? ⟨v4.heap.size, 3, none⟩ = some (.int .i64 b4) := (blk_cell HXA7.out 3).trans rfl
    have x4 : v7.cell? ⟨v4.heap.size, 4, none⟩ = some (.slice Aa a5.length ca) := (blk_cell HXA7.out 4).trans rfl
    have y0 : v7.cell? ⟨v6.heap.size, 0, none⟩ = some (.int .i64 b1) := (blk_cell HXB7.out 0).trans rfl
    have y1 : v7.cell? ⟨v6.heap.size, 1, none⟩ = some (.int .i64 b2) := (blk_cell HXB7.out 1).trans rfl
    have y2 : v7.cell? ⟨v6.heap.size, 2, none⟩ = some (.int .i64 b3) := (blk_cell HXB7.out 2).trans rfl
    have y3 : v7.cell? ⟨v6.heap.size, 3, none⟩ = some (.int .i64 b4) := (blk_cell HXB7.out 3).trans rfl
    have y4 : v7.cell? ⟨v6.heap.size, 4, none⟩ = some (.slice Ab b5.length cb) := (blk_cell HXB7.out 4).trans rfl
    have t1 : decide (b6 < b4) = false := decide_eq_false (by have := TE.out; omega)
    have t1' : b4 ≤ b6 := TE.out
    have t2 : decide (n1 < b4) = false := decide_eq_false (by omega)
    have t3 : decide (b4 ≤ n1) = true := decide_eq_true (by omega)
    have H2 := Aside0.mk h2
    clear FIN TD h2
    go_wp2_with fail
    refine (aircheckref36_Same.calls k a1 a2 a3 b4 Aa ca a5 b1 b2 b3 b4 Ab cb b5 true _ (Kd.R_reads' HRA7.out).2.2 (Kd.R_reads' HRA7.out).2.1 (Kd.R_reads' HRB7.out).2.2 (Kd.R_reads' HRB7.out).2.1 H2.out).mono ?_
    rintro e v8 ⟨rfl, hb8⟩
    have HB8 := Aside0.mk (below_step HB7.out hb8)
    clear hb8 x0 x1 x2 x3 x4 y0 y1 y2 y3 y4
    go_wp2
    go_ret
    exact ⟨rfl, HB8.out⟩

end Go.Proofs.Ytgaepndbfpfniaa.PF4
