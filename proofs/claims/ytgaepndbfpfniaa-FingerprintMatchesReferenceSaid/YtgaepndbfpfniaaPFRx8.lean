-- PRINTED by print.py (a twelfth state) out of the translation. Not trusted: Lean checks it.
import Derived.Test.YtgaepndbfpfniaaPFRx0
import Derived.Test.YtgaepndbfpfniaaPFRx3
import Derived.Test.YtgaepndbfpfniaaPFRx4
import Derived.RangeFuncNested
import Derived.RangeFuncBound
import Derived.RangeFuncCalls
import Derived.RangeFuncLeaves
import Derived.RangeFuncBox
import Derived.Shelf.Abstract
import Derived.Shelf.RegionOpen
import Derived.OwnWalkIn
import Derived.TacticsInMore
import Derived.LoopNIn
import Derived.LoopIn
import Derived.OneCell
import Derived.BigQuiet
import Derived.Deep.RegionWith
import Derived.Deep.RegionHeld3
import Derived.Deep.RegionLaw
import Derived.IntWalk
import Derived.Lib.SliceRun
namespace Go.Proofs.Ytgaepndbfpfniaa.PFR
open Go.RowKit Go.Proofs.YtgaepndbfpfniaaW.PrintWords Go.Proofs.YtgaepndbfpfniaaW.PrintLast Go.Proofs.YtgaepndbfpfniaaW.PrintMore
attribute [local go_sem] max2_int min2_int max_two min_two max_three min_three max_four min_four   -- for this text's walks alone
set_option linter.unusedVariables false
set_option linter.unusedSimpArgs false

attribute [local go_sem] Oper.semAt_some
open Go.Shelf
-- given by hand: fp6
theorem fp_infoS : (Try.prog.info? 22).map (fun i => (i.zero, i.size, i.bytes)) = some (some (.slice none 0 0), 1, 24) := by kernel_rfl
theorem fp_push_blk {B base : Nat} {u : Value} {xs : List (List Int)} {ok : Nat → Prop} {w w1 w2 : World} (h : w.heap[B]? = some (.cells #[u] 26 (0, 0))) (hb : Below w.heap.size w w1) (hu : Kd.S (Kd.slice 3 (Kd.int .i64)) 22 w base ok u xs)
  (hok : ∀ k, ok k → k ≠ B) (hg : w1.grownBy w2 u.ownBlock) : w2.heap[B]? = some (.cells #[u] 26 (0, 0)) :=
 (hg.block B (by have := blk_lt h; have := hb.size; omega) (fun e => hok B ((Kd.S_R hu).1 B e.symm) rfl)).trans ((hb.block B (blk_lt h)).trans h)
set_option maxRecDepth 100000 in
set_option maxHeartbeats 2000000 in
theorem fp_push (B g m base : Nat) (u : Value) (xs : List (List Int)) (r : List Int) (ok : Nat → Prop) (w : World) (h : w.heap[B]? = some (.cells #[u] 26 (0, 0))) (hu : Kd.S (Kd.slice 3 (Kd.int .i64)) 22 w base ok u xs)
  (hr : fp_row w g r) (hm : r.length = m) (hm1 : m ≤ 1001) (hfresh : ∀ k, w.heap.size ≤ k → ok k) (hok : ∀ k, ok k → k ≠ B) (hb : base ≤ w.heap.size) (hB : base ≤ B) (hl : xs.length ≤ 1001) :
  Calls Try.prog 51 #[.slice (some ⟨g, 0, none⟩) m m, .pointer (some ⟨B, 0, none⟩)] w fun e w' => e = .returned (.tuple #[]) ∧
   ∃ v, w'.heap[B]? = some (.cells #[v] 26 (0, 0)) ∧ Kd.S (Kd.slice 3 (Kd.int .i64)) 22 w' base ok v (xs ++ [r]) ∧ Below base w w' ∧ (∀ k, k < w.heap.size → k ≠ B → some k ≠ u.ownBlock → w'.heap[k]? = w.heap[k]?) := by
 subst hm
 have hc : w.cell? ⟨B, 0, none⟩ = some u := (blk_cell h 0).trans rfl
 have hf := blk_frozen h 0
 have hul : ∀ k, u.ownBlock = some k → k < w.heap.size := fun k hk => ((Kd.R_bound (Kd.S_R hu)).1 k hk).2.2.1
 have hw0 : Below w.heap.size w w.drew := below_drew (Below.refl _ _)
 have HC := Aside0.mk (Kd.C_below (hr.C (by omega)) hw0)
 have HU := Aside0.mk hu
 have HH := Aside0.mk h
 have HF := Aside0.mk hfresh
 have HOK := Aside0.mk hok
 have HUL := Aside0.mk hul
 have HL := Aside0.mk hl
 clear hr hu h hfresh hok hul hw0
 go_enter Try.func51, Try.ntmps51
 go_wp2_with fail
 go_region_law (first | (go_simp; go_at_call 52; refine (fp_clone (some ⟨g, 0, none⟩) _ r _ HC.out (by omega)).mono ?_; rintro e w1 ⟨v1, rfl, hR1, hB1⟩; obtain ⟨A1, c1, rfl⟩ := Kd.R_slice hR1; have HR1 := Aside0.mk (Kd.R_lower (Kd.R_mono (Kd.R_bound hR1) (ok' := fun k => w.heap.size ≤ k) (fun k hk => hk.2.1)) hb); have HB1 := Aside0.mk (show Below w.heap.size w w1 from below_then (below_drew (Below.refl _ _)) (Nat.le_refl _) hB1); have hc1 := pw_cell_below hB1 (show w.drew.cell? ⟨B, 0, none⟩ = some u from hc); have hc1a : ∀ o, (w1.alloc o).cell? ⟨B, 0, none⟩ = some u := fun o => pw_cell_below (below_alloc (Below.refl _ _) o) hc1; clear hR1 hB1) | (refine Kd.S_append_step (Kd.slice 3 (Kd.int .i64)) (w0 := w) base (by rfl) (.tmp 3) (.tmp 6) 26 22 (.slice none 0 0) 24 rfl Try.underlying26 fp_infoS rfl (by decide) (by decide) u xs r [.slice A1 r.length c1] ok (fun k => w.heap.size ≤ k) rfl rfl (Kd.M_row HR1.out) (fun k hk => ⟨HF.out k hk, fun e => absurd (HUL.out k e.symm) (by omega)⟩) (fun k hk => HF.out k (Nat.le_trans HB1.out.size hk)) (Kd.S_below (Kd.S_mono (Kd.S_bound HU.out) (fun k hk => ⟨hk.1, fun h => by have := hk.2.2.1; omega⟩)) HB1.out) (HB1.out.mono hb) (Nat.le_trans hb HB1.out.size) (by have := HL.out; omega) ?_; go_loud (intro v2 w2 hR2 hB2 hG2 hat; obtain ⟨A2, c2, rfl⟩ := Kd.S_slice hR2; have HR2 := Aside0.mk hR2; have HB2 := Aside0.mk hB2; have HG2 := Aside0.mk hG2; have HH2 := Aside0.mk (fp_push_blk HH.out HB1.out HU.out HOK.out hG2); have hc2 : w2.cell? ⟨B, 0, none⟩ = some u := (blk_cell HH2.out 0).trans rfl; have hf2 := blk_frozen HH2.out 0; clear hR2 hB2 hG2 hat)))
 all_goals
  go_end0
  have hR3 := Kd.S_far HR2.out (p := ⟨B, 0, none⟩) (fun k hk => HOK.out k hk) (.slice A2 (xs.length + 1) c2)
  rw [show (xs ++ [r]).length = xs.length + 1 by simp] at hR3
  refine ⟨rfl, _, blk_set HH2.out 0 _, hR3, HB2.out.setCell (p := ⟨B, 0, none⟩) hB _, fun k hk hn hu => ?_⟩
  rw [Below.heap_setCell _ _ _ _ hn]
  exact (HG2.out.block k (by have := HB1.out.size; omega) hu).trans (HB1.out.block k hk)
set_option maxRecDepth 100000 in
set_option maxHeartbeats 2000000 in
theorem fp_push2 (B g m base : Nat) (u : Value) (xs : List (List Int)) (r : List Int) (ok : Nat → Prop) (w : World) (h : w.heap[B]? = some (.cells #[u] 26 (0, 0))) (hu : Kd.S (Kd.slice 3 (Kd.int .i64)) 22 w base ok u xs)
  (hr : fp_row w g r) (hm : r.length = m) (hm1 : m ≤ 1001) (hfresh : ∀ k, w.heap.size ≤ k → ok k) (hok : ∀ k, ok k → k ≠ B) (hb : base ≤ w.heap.size) (hB : base ≤ B) (hl : xs.length ≤ 1001) :
  Calls Try.prog 60 #[.slice (some ⟨g, 0, none⟩) m m, .pointer (some ⟨B, 0, none⟩)] w fun e w' => e = .returned (.tuple #[]) ∧
   ∃ v, w'.heap[B]? = some (.cells #[v] 26 (0, 0)) ∧ Kd.S (Kd.slice 3 (Kd.int .i64)) 22 w' base ok v (xs ++ [r]) ∧ Below base w w' ∧ (∀ k, k < w.heap.size → k ≠ B → some k ≠ u.ownBlock → w'.heap[k]? = w.heap[k]?) := by
 subst hm
 have hc : w.cell? ⟨B, 0, none⟩ = some u := (blk_cell h 0).trans rfl
 have hf := blk_frozen h 0
 have hul : ∀ k, u.ownBlock = some k → k < w.heap.size := fun k hk => ((Kd.R_bound (Kd.S_R hu)).1 k hk).2.2.1
 have hw0 : Below w.heap.size w w.drew := below_drew (Below.refl _ _)
 have HC := Aside0.mk (Kd.C_below (hr.C (by omega)) hw0)
 have HU := Aside0.mk hu
 have HH := Aside0.mk h
 have HF := Aside0.mk hfresh
 have HOK := Aside0.mk hok
 have HUL := Aside0.mk hul
 have HL := Aside0.mk hl
 clear hr hu h hfresh hok hul hw0
 go_enter Try.func60, Try.ntmps60
 go_wp2_with fail
 go_region_law (first | (go_simp; go_at_call 52; refine (fp_clone (some ⟨g, 0, none⟩) _ r _ HC.out (by omega)).mono ?_; rintro e w1 ⟨v1, rfl, hR1, hB1⟩; obtain ⟨A1, c1, rfl⟩ := Kd.R_slice hR1; have HR1 := Aside0.mk (Kd.R_lower (Kd.R_mono (Kd.R_bound hR1) (ok' := fun k => w.heap.size ≤ k) (fun k hk => hk.2.1)) hb); have HB1 := Aside0.mk (show Below w.heap.size w w1 from below_then (below_drew (Below.refl _ _)) (Nat.le_refl _) hB1); have hc1 := pw_cell_below hB1 (show w.drew.cell? ⟨B, 0, none⟩ = some u from hc); have hc1a : ∀ o, (w1.alloc o).cell? ⟨B, 0, none⟩ = some u := fun o => pw_cell_below (below_alloc (Below.refl _ _) o) hc1; clear hR1 hB1) | (refine Kd.S_append_step (Kd.slice 3 (Kd.int .i64)) (w0 := w) base (by rfl) (.tmp 3) (.tmp 6) 26 22 (.slice none 0 0) 24 rfl Try.underlying26 fp_infoS rfl (by decide) (by decide) u xs r [.slice A1 r.length c1] ok (fun k => w.heap.size ≤ k) rfl rfl (Kd.M_row HR1.out) (fun k hk => ⟨HF.out k hk, fun e => absurd (HUL.out k e.symm) (by omega)⟩) (fun k hk => HF.out k (Nat.le_trans HB1.out.size hk)) (Kd.S_below (Kd.S_mono (Kd.S_bound HU.out) (fun k hk => ⟨hk.1, fun h => by have := hk.2.2.1; omega⟩)) HB1.out) (HB1.out.mono hb) (Nat.le_trans hb HB1.out.size) (by have := HL.out; omega) ?_; go_loud (intro v2 w2 hR2 hB2 hG2 hat; obtain ⟨A2, c2, rfl⟩ := Kd.S_slice hR2; have HR2 := Aside0.mk hR2; have HB2 := Aside0.mk hB2; have HG2 := Aside0.mk hG2; have HH2 := Aside0.mk (fp_push_blk HH.out HB1.out HU.out HOK.out hG2); have hc2 : w2.cell? ⟨B, 0, none⟩ = some u := (blk_cell HH2.out 0).trans rfl; have hf2 := blk_frozen HH2.out 0; clear hR2 hB2 hG2 hat)))
 all_goals
  go_end0
  have hR3 := Kd.S_far HR2.out (p := ⟨B, 0, none⟩) (fun k hk => HOK.out k hk) (.slice A2 (xs.length + 1) c2)
  rw [show (xs ++ [r]).length = xs.length + 1 by simp] at hR3
  refine ⟨rfl, _, blk_set HH2.out 0 _, hR3, HB2.out.setCell (p := ⟨B, 0, none⟩) hB _, fun k hk hn hu => ?_⟩
  rw [Below.heap_setCell _ _ _ _ hn]
  exact (HG2.out.block k (by have := HB1.out.size; omega) hu).trans (HB1.out.block k hk)

/-! the table that grows in box B; rows (G) that it leaves alone -/
def fp_tabJ (w0 : World) (B : Nat) (G : List (Value × List Int)) (X : Nat → Prop) (pre : List (List Int)) (W : World) : Prop :=
 Below w0.heap.size w0 W ∧ w0.heap.size ≤ B ∧ ¬ X B ∧
  (∃ u, W.heap[B]? = some (.cells #[u] 26 (0, 0)) ∧ Kd.S (Kd.slice 3 (Kd.int .i64)) 22 W w0.heap.size (fun k => k ≠ B ∧ ¬ X k) u pre) ∧
  ∀ q ∈ G, Kd.R (Kd.int .i64) 3 W w0.heap.size (fun k => k ≠ B ∧ ¬ X k) q.1 q.2
theorem fp_tab_keep {w0 : World} {B : Nat} {G : List (Value × List Int)} {X : Nat → Prop} {pre : List (List Int)} {W W' : World} (h : fp_tabJ w0 B G X pre W) (hb : Below w0.heap.size W W') (hk : ∀ k, k < W.heap.size → ¬ X k → W'.heap[k]? = W.heap[k]?) : fp_tabJ w0 B G X pre W' := by
 obtain ⟨h1, h2, h3, ⟨u, h4, h5⟩, h6⟩ := h
 exact ⟨h1.trans hb, h2, h3, ⟨u, (hk _ (blk_lt h4) h3).trans h4, Kd.S_step h5 (fun k ho hlt => hk k hlt ho.2)⟩, fun q hq => Kd.R_step (h6 q hq) (fun k ho hlt => hk k hlt ho.2)⟩
theorem fp_tab_more {w0 : World} {B : Nat} {G : List (Value × List Int)} {X : Nat → Prop} {pre : List (List Int)} {W : World} {h : Nat} (hj : fp_tabJ w0 B G X pre W) (hh : W.heap.size ≤ h) : fp_tabJ w0 B G (fun k => X k ∨ k = h) pre W := by
 obtain ⟨h1, h2, h3, ⟨u, h4, h5⟩, h6⟩ := hj
 refine ⟨h1, h2, ?_, ⟨u, h4, Kd.S_mono (Kd.S_bound h5) ?_⟩, fun q hq => Kd.R_mono (Kd.R_bound (h6 q hq)) ?_⟩
 ·rintro (hx | hx)
  ·exact h3 hx
  ·have := blk_lt h4; omega
 ·rintro k ⟨⟨a, b⟩, _, c, _⟩
  exact ⟨a, fun hx => hx.elim b (fun e => by omega)⟩
 ·rintro k ⟨⟨a, b⟩, _, c, _⟩
  exact ⟨a, fun hx => hx.elim b (fun e => by omega)⟩
theorem fp_tab_push {w0 : World} {B : Nat} {G : List (Value × List Int)} {X : Nat → Prop} {pre : List (List Int)} {r : List Int} {W w' : World} {u v : Value} (h : fp_tabJ w0 B G X pre W) (hX : ∀ k, X k → k < W.heap.size)
  (h4 : W.heap[B]? = some (.cells #[u] 26 (0, 0))) (h5 : Kd.S (Kd.slice 3 (Kd.int .i64)) 22 W w0.heap.size (fun k => k ≠ B ∧ ¬ X k) u pre)
  (h4' : w'.heap[B]? = some (.cells #[v] 26 (0, 0))) (h5' : Kd.S (Kd.slice 3 (Kd.int .i64)) 22 w' w0.heap.size (fun k => k ≠ B ∧ ¬ X k) v (pre ++ [r])) (hb : Below w0.heap.size W w') (hk : ∀ k, k < W.heap.size → k ≠ B → some k ≠ u.ownBlock → w'.heap[k]? = W.heap[k]?) :
  fp_tabJ w0 B G X (pre ++ [r]) w' ∧ ∀ k, X k → w'.heap[k]? = W.heap[k]? := by
 obtain ⟨h1, h2, h3, _, h6⟩ := h
 have hu : ∀ k, some k = u.ownBlock → (k ≠ B ∧ ¬ X k) ∧ ∃ cells, W.heap[k]? = some (.cells cells 22 (0, 0)) := by
  intro k e
  have h7 := (Kd.S_R h5).1
  obtain ⟨inner, ho⟩ := Kd.S_own h5
  refine ⟨h7 k e.symm, ?_⟩
  rcases ho.2 with ⟨hv, _⟩ | ⟨g, cap, cur, hv, _, hh, _⟩
  ·rw [hv] at e; cases e
  ·rw [hv] at e; cases e; exact ⟨_, hh⟩
 refine ⟨⟨h1.trans hb, h2, h3, ⟨v, h4', h5'⟩, fun q hq => Kd.R_step (Kd.R_bound (h6 q hq)) ?_ |> fun z => Kd.R_mono z (fun k hk => hk.1)⟩, fun k hx => hk k (hX k hx) (fun e => h3 (e ▸ hx)) (fun e => (hu k e).1.2 hx)⟩
 rintro k ⟨⟨a, b⟩, _, c, p, hp, cells, hc⟩ hlt
 refine hk k hlt a (fun e => ?_)
 obtain ⟨_, cells', hc'⟩ := hu k e
 rw [hc] at hc'
 have : p = 3 := by simpa [Kd.int, Kd.scalar] using hp
 subst this
 cases hc'
theorem fp_tabEach (w0 : World) (B g m : Nat) (G : List (Value × List Int)) (hm1 : m ≤ 1001) : fp_Each 51 #[.pointer (some ⟨B, 0, none⟩)] m 1001 g w0.heap.size (fp_tabJ w0 B G) where
 enters := fun args W => enters_of Try.func51 (by kernel_rfl) rfl args W
 keep := fun X pre W W' h hb hk => fp_tab_keep h hb hk
 more := fun X pre W h hj hh => fp_tab_more hj hh
 call := by
  rintro X pre r W hj hX hg hr hm hN hb
  obtain ⟨u, h4, h5⟩ := hj.2.2.2.1
  refine (fp_push B g m w0.heap.size u pre r (fun k => k ≠ B ∧ ¬ X k) W h4 h5 hr hm hm1 (fun k hk => ⟨fun e => by have := blk_lt h4; omega, fun hx => by have := hX k hx; omega⟩) (fun k hk => hk.1) hb hj.2.1 (by omega)).mono ?_
  rintro e w' ⟨rfl, v, h4', h5', hb', hk'⟩
  obtain ⟨z1, z2⟩ := fp_tab_push hj hX h4 h5 h4' h5' hb' hk'
  exact ⟨rfl, z1, hb', z2⟩
theorem fp_stepsEach (w0 : World) (B g m : Nat) (G : List (Value × List Int)) (hm1 : m ≤ 1001) : fp_Each 60 #[.pointer (some ⟨B, 0, none⟩)] m 1001 g w0.heap.size (fp_tabJ w0 B G) where
 enters := fun args W => enters_of Try.func60 (by kernel_rfl) rfl args W
 keep := fun X pre W W' h hb hk => fp_tab_keep h hb hk
 more := fun X pre W h hj hh => fp_tab_more hj hh
 call := by
  rintro X pre r W hj hX hg hr hm hN hb
  obtain ⟨u, h4, h5⟩ := hj.2.2.2.1
  refine (fp_push2 B g m w0.heap.size u pre r (fun k => k ≠ B ∧ ¬ X k) W h4 h5 hr hm hm1 (fun k hk => ⟨fun e => by have := blk_lt h4; omega, fun hx => by have := hX k hx; omega⟩) (fun k hk => hk.1) hb hj.2.1 (by omega)).mono ?_
  rintro e w' ⟨rfl, v, h4', h5', hb', hk'⟩
  obtain ⟨z1, z2⟩ := fp_tab_push hj hX h4 h5 h4' h5' hb' hk'
  exact ⟨rfl, z1, hb', z2⟩

end Go.Proofs.Ytgaepndbfpfniaa.PFR
