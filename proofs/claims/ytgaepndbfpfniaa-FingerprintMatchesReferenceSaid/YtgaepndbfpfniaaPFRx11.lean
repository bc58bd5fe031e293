-- PRINTED by print.py (a twelfth state) out of the translation. Not trusted: Lean checks it.
import Derived.Test.YtgaepndbfpfniaaPFRx0
import Derived.Test.YtgaepndbfpfniaaPFRx4
import Derived.RangeFuncNested
import Derived.RangeFuncBound
import Derived.RangeFuncCalls
import Derived.RangeFuncLeaves
import Derived.RangeFuncBox
import Derived.Shelf.Abstract
import Derived.Shelf.RegionOpen
import Derived.OwnWalkIn
import Derived.TacticsInMore
import Derived.LoopNIn
import Derived.LoopIn
import Derived.OneCell
import Derived.BigQuiet
import Derived.Deep.RegionWith
import Derived.Deep.RegionHeld3
import Derived.Deep.RegionLaw
import Derived.IntWalk
import Derived.Lib.SliceRun
namespace Go.Proofs.Ytgaepndbfpfniaa.PFR
open Go.RowKit Go.Proofs.YtgaepndbfpfniaaW.PrintWords Go.Proofs.YtgaepndbfpfniaaW.PrintLast Go.Proofs.YtgaepndbfpfniaaW.PrintMore
attribute [local go_sem] max2_int min2_int max_two min_two max_three min_three max_four min_four   -- for this text's walks alone
set_option linter.unusedVariables false
set_option linter.unusedSimpArgs false

attribute [local go_sem] Oper.semAt_some
open Go.Shelf
-- given by hand: fp9
def fp_errT (T : List (List Int)) (h p : Nat) : Int := rd (T.getD h []) (p : Int)
theorem fp_atT {w : World} {A : Option Addr} {T : List (List Int)} (h : Kd.C (Kd.slice 3 (Kd.int .i64)) w A T.length T) (i : Nat) (hi : i < T.length) : ∃ ad A0 c0, A = some ad ∧ w.cell? (ad.add i) = some (.slice A0 (T.getD i []).length c0) ∧ Kd.C (Kd.int .i64) w A0 (T.getD i []).length (T.getD i []) := by
 obtain ⟨ad, c, e, _, hK, hc0⟩ := Kd.C_get h ([] : List Int) (i : Int) (by omega) (by omega)
 rw [Int.toNat_natCast] at hK hc0
 obtain ⟨A0, c0, rfl, l0, g0⟩ := hK
 refine ⟨ad, A0, c0, e, ?_, g0⟩
 have hq := hc0 0 _ rfl
 have e1 : i * (Kd.slice 3 (Kd.int .i64)).sz + 0 = i := by show i * 1 + 0 = i; omega
 rwa [e1] at hq
set_option maxRecDepth 100000 in
set_option maxHeartbeats 1000000 in
theorem fp_err (B : Nat) (A Ah Ap : Option Addr) (c hn hc pn pc : Nat) (T : List (List Int)) (w : World) (hb : w.heap[B]? = some (.cells #[.slice A T.length c] 26 (0, 0))) (hT : Kd.C (Kd.slice 3 (Kd.int .i64)) w A T.length T)
  (h1 : hn < T.length) (h2 : pn < (T.getD hn []).length) :
  Calls Try.prog 61 #[.slice Ah hn hc, .slice Ap pn pc, .pointer (some ⟨B, 0, none⟩)] w fun e w' => e = .returned (.int .i64 (fp_errT T hn pn)) ∧ w = w' := by
 have hbc : w.cell? ⟨B, 0, none⟩ = some (.slice A T.length c) := (blk_cell hb 0).trans rfl
 obtain ⟨ad, A0, c0, rfl, hx, hrow⟩ := fp_atT hT hn h1
 obtain ⟨ad2, rfl, hy⟩ := Kd.at_int hrow (pn : Int) (by omega) (by omega)
 rw [Int.toNat_natCast] at hy
 have hl := hrow.2.1
 have d1 : (hn : Int) < T.length := by omega
 obtain ⟨row, hrw⟩ : ∃ row, T.getD hn [] = row := ⟨_, rfl⟩
 rw [hrw] at hx hy h2 hl
 have d2 : (pn : Int) < row.length := by omega
 have E := Aside0.mk (show rd row (pn : Int) = fp_errT T hn pn by unfold fp_errT; rw [hrw])
 obtain ⟨v, hv⟩ : ∃ v, rd row (pn : Int) = v := ⟨_, rfl⟩
 rw [hv] at hy E
 clear hb hT hrow hrw hv h1 h2
 go_enter Try.func61, Try.ntmps61
 go_wp2
 go_ret
 exact ⟨by rw [← E.out]; rfl, rfl⟩
theorem fp_tail (A : Option Addr) (c n : Nat) (x : Int) (h : List Int) (hn : h.length = n) (hc : n + 1 ≤ c) : ∃ A', (∀ W, (Instr.slice 22 (.slice A (n + 1) c) (some (.int .i64 1)) none none).run Try.prog W = .ok (.slice A' n (c - 1)) W) ∧
  (∀ W, Kd.C (Kd.int .i64) W A (n + 1) (x :: h) → Kd.C (Kd.int .i64) W A' n h) := by
 obtain ⟨i0, hi, _, hs, _⟩ := info_parts info3
 have hcut := cut_from (P := Try.prog) 22 3 .i64 Try.underlying22 hi 1 hs A (n + 1) c 1 (by decide) (by omega)
 refine ⟨if c = 1 then A else A.map (·.add 1), fun W => ?_, fun W hC => ?_⟩
 ·have := hcut W
  simpa using this
 ·subst hn
  have := Kd.C_drop (k := Kd.int .i64) (xs := x :: h) (m := 1) (c := c) hC (by simp) (by simpa using hc)
  simpa [show (Kd.int .i64).sz = 1 from rfl] using this

def fp_opsF (T : List (List Int)) : Nat → List Int → List Int → Option (List Int)
 | 0, _, _ => none
 | _ + 1, [], [] => some []
 | k + 1, [], _ :: p => (fp_opsF T k [] p).map (fun s => 4 :: s)
 | k + 1, _ :: h, [] => if wrap64 (fp_errT T h.length 0 + 1) = fp_errT T (h.length + 1) 0 then (fp_opsF T k h []).map (fun s => 3 :: s) else none
 | k + 1, x :: h, y :: p =>
  if x = y ∧ fp_errT T h.length p.length = fp_errT T (h.length + 1) (p.length + 1) then (fp_opsF T k h p).map (fun s => 1 :: s)
  else if x ≠ y ∧ wrap64 (fp_errT T h.length p.length + 1) = fp_errT T (h.length + 1) (p.length + 1) then (fp_opsF T k h p).map (fun s => 2 :: s)
  else if wrap64 (fp_errT T h.length (p.length + 1) + 1) = fp_errT T (h.length + 1) (p.length + 1) then (fp_opsF T k h (y :: p)).map (fun s => 3 :: s)
  else (fp_opsF T k (x :: h) p).map (fun s => 4 :: s)
def fp_tableB (h p : List Int) : List (List Int) := fp_rowsP h.reverse p.reverse false
def fingerprint_steps.f (h p : List Int) : Option (List Int) := if h.length ≤ 1000 then if p.length ≤ 1000 then fp_opsF (fp_tableB h p) (h.length + p.length + 1) h p else none else none
theorem fp_rowsF_lens (b : List Int) : ∀ (a r : List Int), r.length = b.length + 1 → ∀ q ∈ fp_rowsF b r a, q.length = b.length + 1
 | [], r, h, q, hq => by simp [fp_rowsF] at hq
 | x :: a, r, h, q, hq => by
  simp only [fp_rowsF, List.mem_cons] at hq
  rcases hq with rfl | hq
  ·exact fp_next_length x b r h
  ·exact fp_rowsF_lens b a _ (fp_next_length x b r h) q hq
theorem fp_tableB_dims (h p : List Int) : (fp_tableB h p).length = h.length + 1 ∧ ∀ i, i ≤ h.length → ((fp_tableB h p).getD i []).length = p.length + 1 := by
 constructor
 ·unfold fp_tableB fp_rowsP; simp [fp_rowsF_length]
 ·intro i hi
  have hm : (fp_tableB h p).getD i [] ∈ fp_tableB h p := by
   have : i < (fp_tableB h p).length := by unfold fp_tableB fp_rowsP; simp [fp_rowsF_length]; omega
   rw [List.getD_eq_getElem?_getD, List.getElem?_eq_getElem this, Option.getD_some]
   exact List.getElem_mem this
  unfold fp_tableB fp_rowsP at hm
  rcases List.mem_cons.1 hm with e | hm
  ·unfold fp_tableB fp_rowsP; rw [e, fp_row0_length]; simp
  ·have := fp_rowsF_lens p.reverse h.reverse _ (fp_row0_length false _) _ hm
   unfold fp_tableB fp_rowsP
   rw [this]; simp
/-- one more operation -/
theorem fp_op {T : List (List Int)} {k : Nat} {h p out r : List Int} {c : Int} (H : ∃ s, (fp_opsF T k h p).map (fun s => c :: s) = some s ∧ out ++ s = r) : ∃ s, fp_opsF T k h p = some s ∧ (out ++ [c]) ++ s = r := by
 obtain ⟨s, h1, h2⟩ := H
 cases e : fp_opsF T k h p with
 | none => rw [e] at h1; cases h1
 | some s' =>
  rw [e] at h1
  cases h1
  exact ⟨s', rfl, by rw [← h2]; simp⟩

end Go.Proofs.Ytgaepndbfpfniaa.PFR
