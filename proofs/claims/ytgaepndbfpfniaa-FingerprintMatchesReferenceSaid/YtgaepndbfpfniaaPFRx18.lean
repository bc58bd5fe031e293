-- PRINTED by print.py (a twelfth state) out of the translation. Not trusted: Lean checks it.
import Derived.Test.YtgaepndbfpfniaaPFRx0
import Derived.Test.YtgaepndbfpfniaaPFRx4
import Derived.RangeFuncNested
import Derived.RangeFuncBound
import Derived.RangeFuncCalls
import Derived.RangeFuncLeaves
import Derived.RangeFuncBox
import Derived.Shelf.Abstract
import Derived.Shelf.RegionOpen
import Derived.OwnWalkIn
import Derived.TacticsInMore
import Derived.LoopNIn
import Derived.LoopIn
import Derived.OneCell
import Derived.BigQuiet
import Derived.Deep.RegionWith
import Derived.Deep.RegionHeld3
import Derived.Deep.RegionLaw
import Derived.IntWalk
import Derived.Lib.SliceRun
namespace Go.Proofs.Ytgaepndbfpfniaa.PFR
open Go.RowKit Go.Proofs.YtgaepndbfpfniaaW.PrintWords Go.Proofs.YtgaepndbfpfniaaW.PrintLast Go.Proofs.YtgaepndbfpfniaaW.PrintMore
attribute [local go_sem] max2_int min2_int max_two min_two max_three min_three max_four min_four   -- for this text's walks alone
set_option linter.unusedVariables false
set_option linter.unusedSimpArgs false

attribute [local go_sem] Oper.semAt_some
open Go.Shelf
-- given by hand: fp11
theorem fp_cuts (g n c i : Nat) (hi : i < n) (hc : n ≤ c) :
  (∃ v, ∀ W, (Instr.slice 22 (.slice (some ⟨g, 0, none⟩) n c) (some (.int .i64 (i : Int))) (some (.int .i64 ((i : Int) + 1))) (some (.int .i64 (n : Int)))).run Try.prog W = .ok v W) ∧
  (∀ W, (Instr.slice 22 (.slice (some ⟨g, 0, none⟩) n c) none (some (.int .i64 (i : Int))) none).run Try.prog W = .ok (.slice (some ⟨g, 0, none⟩) i c) W) ∧
  (∀ W, (Instr.slice 22 (.slice (some ⟨g, 0, none⟩) n c) (some (.int .i64 ((i : Int) + 1))) none none).run Try.prog W = .ok (.slice (if c = i + 1 then some ⟨g, 0, none⟩ else (some (⟨g, 0, none⟩ : Addr)).map (·.add ((i + 1) * 1))) (n - (i + 1)) (c - (i + 1))) W) ∧
  (∀ W, (Instr.slice 22 (.slice (some ⟨g, 0, none⟩) (n - 1) c) (some (.int .i64 ((n - 1 : Nat) : Int))) (some (.int .i64 (n : Int))) none).run Try.prog W = .ok (.slice (some ⟨g, n - 1, none⟩) 1 (c - (n - 1))) W) := by
 obtain ⟨i0, hi0, _, hs, _⟩ := info_parts info3
 have ht := Try.underlying22
 have hel : Try.prog.elem 22 = 3 := by simp [Program.elem, ht]
 have hu : Try.prog.underlying 22 = some (.slice (Try.prog.elem 22)) := by rw [hel]; exact ht
 refine ⟨⟨sliced (some ⟨g, 0, none⟩) (i : Int).toNat ((i : Int) + 1).toNat (n : Int).toNat 1, fun W => ?_⟩, fun W => ?_, fun W => ?_, fun W => ?_⟩
 ·rw [run_slice_lhm W 22 _ n c hu .i64 .i64 .i64 _ _ _ (by omega) (by omega) (by omega) (by omega), hel]
  simp [sizeOf, typeInfo, hi0, hs, Result.andThen]
 ·have := cut_to (P := Try.prog) 22 3 .i64 ht hi0 (some ⟨g, 0, none⟩) n c (i : Int) (by omega) (by omega) hc W
  simpa using this
 ·have := cut_from (P := Try.prog) 22 3 .i64 ht hi0 1 hs (some ⟨g, 0, none⟩) n c ((i : Int) + 1) (by omega) (by omega) W
  have e : ((i : Int) + 1).toNat = i + 1 := by omega
  rw [e] at this
  exact this
 ·rw [run_slice_lh W 22 _ (n - 1) c hu .i64 .i64 _ _ (by omega) (by omega) (by omega), hel]
  simp [sizeOf, typeInfo, hi0, hs, sliced, Result.andThen, Addr.add]
  refine ⟨?_, by omega⟩
  rw [if_neg (by omega)]
  split
  ·rename_i e; rw [e]
  ·rfl
theorem fp_clear (W : World) (g n c : Nat) (xs : List Int) (base : Nat) (ok : Nat → Prop) (hn : 0 < n) (hc : n ≤ c) (hl : xs.length = n - 1) (h : Kd.R (Kd.int .i64) 3 W base ok (.slice (some ⟨g, 0, none⟩) (n - 1) c) xs) (ty : TypeId) :
  ∃ W', (Builtin.clear_ #[22] ty #[.slice (some ⟨g, n - 1, none⟩) 1 (c - (n - 1))]).run Try.prog W = .ok (.tuple #[]) W' ∧ Kd.R (Kd.int .i64) 3 W' base ok (.slice (some ⟨g, 0, none⟩) (n - 1) c) xs ∧ Below base W W' ∧ ∀ k, k ≠ g → W'.heap[k]? = W.heap[k]? := by
 have ho := Kd.own_of_R h
 obtain ⟨i0, hi0, hz, hs, _⟩ := info_parts info3
 rw [hl] at ho
 rcases ho.2 with ⟨e, _⟩ | ⟨g', cap, cur, e, hb, hh, h1, h2, h3, h4⟩
 ·cases e
 ·injection e with e1 e2 e3
  injection e1 with e1
  injection e1 with e1
  subst e1 e3
  have hcs : cur.size = c := by omega
  have hcell : (W.cell? ⟨g, n - 1, none⟩).isSome = true := by rw [blk_cell hh (n - 1)]; simp; omega
  have hf := blk_frozen hh (n - 1)
  have hz0 : ∀ w, (zeroValue 3).run Try.prog w = .ok (.int .i64 0) w := fun w => by simp [zeroValue, typeInfo, hi0, hz, Result.andThen]
  have hrun := Lib.run_clear_slice W 22 3 ty (.int .i64 0) Try.underlying22 hz0 rfl rfl g (n - 1) 1 (c - (n - 1)) (by decide) (fun j hj => by
   obtain rfl : j = 0 := (by omega)
   exact hcell) (fun j hj => by
   obtain rfl : j = 0 := (by omega)
   exact hf)
  refine ⟨_, hrun, ?_, ?_, fun k hk => Below.heap_setCell _ _ _ _ hk⟩
  ·show Kd.R (Kd.int .i64) 3 (W.setCell ⟨g, n - 1, none⟩ (.int .i64 0)) base ok _ xs
   refine Kd.R_of_own (by
    rw [hl]
    refine ⟨ho.1, .inr ⟨g, c, _, rfl, hb, blk_set hh (n - 1) (.int .i64 0), h1, h2, by simpa using h3, ?_⟩⟩
    rw [← h4]
    simp only [Array.toList_setIfInBounds, Nat.mul_one]
    rw [List.take_set_of_le (Nat.le_refl _)]) h.1
  ·exact (Below.refl base W).setCell (p := ⟨g, n - 1, none⟩) hb _
set_option maxRecDepth 100000 in
set_option maxHeartbeats 1000000 in
theorem fp_delete (g n c i base : Nat) (ok : Nat → Prop) (xs : List Int) (w : World) (h : Kd.R (Kd.int .i64) 3 w base ok (.slice (some ⟨g, 0, none⟩) n c) xs) (hi : i < n) (hn : n ≤ 1000) (hb : base ≤ w.heap.size) :
  Calls Try.prog 54 #[.slice (some ⟨g, 0, none⟩) n c, .int .i64 (i : Int), .int .i64 ((i : Int) + 1)] w fun e w' => e = .returned (.slice (some ⟨g, 0, none⟩) (n - 1) c) ∧ Kd.R (Kd.int .i64) 3 w' base ok (.slice (some ⟨g, 0, none⟩) (n - 1) c) (xs.eraseIdx i) ∧ Below base w w' ∧ ∀ k, k < w.heap.size → k ≠ g → w'.heap[k]? = w.heap[k]? := by
 obtain ⟨hl, hc, hx⟩ := Kd.R_reads' h
 clear hx
 obtain ⟨⟨v, k1⟩, k2, k3, k4⟩ := fp_cuts g n c i hi hc
 have t1 : ((i : Int) == (i : Int) + 1) = false := by simp; omega
 obtain ⟨A', hA'⟩ : ∃ A', (if c = i + 1 then some ⟨g, 0, none⟩ else (some (⟨g, 0, none⟩ : Addr)).map (·.add ((i + 1) * 1))) = A' := ⟨_, rfl⟩
 rw [hA'] at k3
 have HA := Aside0.mk hA'.symm
 clear hA'
 have HR := Aside0.mk h
 have HL := Aside0.mk (show (xs.eraseIdx i).length = n - 1 by rw [List.length_eraseIdx_of_lt (by omega)]; omega)
 have HC := Aside0.mk hc
 have HLN := Aside0.mk hl
 clear h hl
 go_enter Try.func54, Try.ntmps54
 go_wp2
 go_region_held3 (fun W => Aside0 (Below base w W)) (first | exact HB2 | exact ⟨below_drew (Below.refl _ _)⟩ | exact ⟨Below.refl _ _⟩) (first | (refine Kd.R_delete_step (Kd.int .i64) (w0 := w) base (by rfl) (.tmp 22) (.tmp 25) 22 3 rfl Try.underlying22 info3s (g := g) (n := n) (c := c) (k := i) (xs := xs) (ok := ok) rfl rfl HA.out rfl (Kd.R_drew HR.out) hi (below_drew (Below.refl _ _)) hb ?_; intro w1 hr1 hb1 hg1; have HR2 := Aside0.mk hr1; have HB2 := Aside0.mk hb1; have HG2 := Aside0.mk hg1; clear hr1 hb1 hg1))
 obtain ⟨w2, hrun, hr3, hb3, hk3⟩ := fp_clear w1 g n c (xs.eraseIdx i) base ok (by omega) hc HL.out HR2.out 0
 have HR3 := Aside0.mk hr3
 have HB3 := Aside0.mk (HB2.out.trans hb3)
 have HK3 := Aside0.mk hk3
 have hn1 : n - 1 ≤ c := by omega
 clear hr3 hb3 hk3 HR2 HR HA k1 k2 k3
 go_wp2
 go_ret
 exact ⟨rfl, HR3.out, HB3.out, fun k hk hne => (HK3.out k hne).trans (HG2.out.block k hk (fun e => hne (Option.some.inj e)))⟩

end Go.Proofs.Ytgaepndbfpfniaa.PFR
