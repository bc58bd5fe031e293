-- PRINTED by print.py (a twelfth state) out of the translation. Not trusted: Lean checks it.
import Derived.Test.YtglcdgalimgkeaaDoorPJBx0
import Derived.Test.YtglcdgalimgkeaaDoorPJBx6
import Derived.Test.YtglcdgalimgkeaaDoorPJBx8
import Derived.Test.YtglcdgalimgkeaaDoorPJBx9
import Derived.RangeFuncNested
import Derived.RangeFuncBound
import Derived.RangeFuncCalls
import Derived.RangeFuncLeaves
import Derived.RangeFuncBox
import Derived.Shelf.Abstract
import Derived.Shelf.RegionOpen
import Derived.OwnWalkIn
import Derived.TacticsInMore
import Derived.LoopNIn
import Derived.LoopIn
import Derived.OneCell
import Derived.BigQuiet
import Derived.Deep.RegionWith
import Derived.Deep.RegionHeld3
import Derived.IntWalk
namespace Go.Proofs.YtglcdgalimgkeaaDoor.PJB
open Go.RowKit Go.Proofs.YtglcdgalimgkeaaDoorW.PrintWords Go.Proofs.YtglcdgalimgkeaaDoorW.PrintLast Go.Proofs.YtglcdgalimgkeaaDoorW.PrintMore
attribute [local go_sem] max2_int min2_int max_two min_two max_three min_three max_four min_four   -- for this text's walks alone
set_option linter.unusedVariables false
set_option linter.unusedSimpArgs false

attribute [local go_sem] Oper.semAt_some
open Go.Shelf
-- given by hand: tl4a


def tl_atP (l : List S74) (t : Int) : Int × Int := match (tl_clip l t (wrap64 (t + 1))).head? with
 | none => (0, 150)
 | some s => (s.f2, 0)
def timeline_At.f (l : List S74) (t : Int) : Option (Int × Int) := some (if tl_validB l = true then tl_atP l t else (0, 150))
def tl_RC (W : World) (B0 B1 : Nat) (x y : Int) : Prop := Boxed W B0 3 (.int .i64 x) ∧ Boxed W B1 38 (.int .i64 y)
theorem tl_RC.own {X Y : World} {row : Option Nat} {B0 B1 : Nat} {x y : Int} (h : tl_RC X B0 B1 x y) (hg : X.grownBy Y row) (hr : ∀ r, row = some r → ∃ o : Obj, X.heap[r]? = some o ∧ o.isCells = false) : tl_RC Y B0 B1 x y :=
 ⟨boxed_own B0 3 (fun (_ : Unit) => Value.int .i64 x) () X Y row h.1 hg hr, boxed_own B1 38 (fun (_ : Unit) => Value.int .i64 y) () X Y row h.2 hg hr⟩
theorem Boxed.below' {X Y : World} {B t : Nat} {v : Value} (h : Boxed X B t v) (hb : Below X.heap.size X Y) : Boxed Y B t v := (hb.block B (Array.getElem?_eq_some_iff.1 h).1).trans h
theorem tl_RC.below {X Y : World} {B0 B1 : Nat} {x y : Int} (h : tl_RC X B0 B1 x y) (hb : Below X.heap.size X Y) : tl_RC Y B0 B1 x y := ⟨Boxed.below' h.1 hb, Boxed.below' h.2 hb⟩
theorem tl_RC.set {W : World} {B : Nat} {x y x' y' : Int} (h : tl_RC W B (B + 1) x y) : tl_RC ((W.setCell ⟨B, 0, none⟩ (.int .i64 x')).setCell ⟨B + 1, 0, none⟩ (.int .i64 y')) B (B + 1) x' y' :=
 ⟨(h.1.set _).other (by simp) _, (h.2.other (by simp) _).set _⟩
theorem tl_below_alloc' {w W : World} (h : Below w.heap.size w W) (o : Obj) : Below w.heap.size w (W.alloc o) := below_alloc h o
set_option maxRecDepth 100000 in
set_option maxHeartbeats 2000000 in
theorem tl_at_in (n : Nat) (hn : 6 ≤ n) (A0 : Option Addr) (c0 : Nat) (l0 : List S74) (t : Int) (w : World) (hr0 : Kd.C k74 w A0 l0.length l0) (hc0 : l0.length ≤ c0) (hv : tl_validB l0 = true) :
  CallsIn Fence.wide n Tryd.prog 35 #[.slice A0 l0.length c0, .int .i64 t] w fun e w' => e = .returned (.tuple #[.int .i64 (tl_atP l0 t).1, .int .i64 (tl_atP l0 t).2]) ∧ Below w.heap.size w w' := by
 have h1 : 1 ≤ n := by omega
 have hn0 := hr0.2.1
 have hl : l0.length ≤ 200 := by unfold tl_validB at hv; simp at hv; exact hv.2
 have HR := Aside0.mk hr0
 have HC := Aside0.mk hc0
 have HVF := Aside0.mk ((tl_valid_f l0 hn0 (k := l0.length + 1) (by omega)).trans (by rw [hv]))
 obtain ⟨u, hu⟩ : ∃ u, wrap64 (t + 1) = u := ⟨_, rfl⟩
 have hw : IntKind.i64.wrap (t + 1) = u := (i64_w _).trans hu
 have HU := Aside0.mk hu
 clear hr0 hc0 hn0 hv hu
 refine callsIn_of_wp_marks Tryd.func35 rfl trivial ?_ rfl
 simp only [Tryd.ntmps35, List.size_toArray, List.length_cons, List.length_nil, Nat.reduceAdd, Nat.reduceSub, Array.replicate_succ, Array.replicate_zero, List.push_toArray, List.append_toArray, List.nil_append, List.cons_append]
 gi_wp2_with fail
 refine ⟨trivial, ?_⟩
 refine (callsIn_wide.2 (timeline_Valid.calls _ _ _ l0 true _ (Kd.C_below HR.out (below_alloc (below_alloc (Below.refl _ _) _) _)) HC.out HVF.out)).mono ?_
 rintro e w1 ⟨rfl, hb1⟩
 have HB1 := Aside0.mk (below_then (below_alloc (below_alloc (Below.refl w.heap.size w) _) _) (by simp; omega) hb1)
 have HC4 := Aside0.mk (tl_RC.below (show tl_RC _ w.heap.size (w.heap.size + 1) 0 0 from ⟨(Boxed.new w 3 (.int .i64 0)).alloc _, by have := Boxed.new (w.alloc (.cells #[.int .i64 0] 3)) 38 (.int .i64 0); rwa [World.size_alloc] at this⟩) hb1)
 clear hb1
 gi_wp2_with fail
 refine ⟨trivial, ?_⟩
 refine (callsIn_wide.2 (tl_within_any _ _ _ _ _ _)).mono ?_
 rintro e w2 ⟨rfl, rfl⟩
 gi_wp2_with fail
 obtain ⟨W0, hW0⟩ : ∃ W0, tl_three w1 (.slice A0 l0.length c0) (.int .i64 t) (.int .i64 u) = W0 := ⟨_, rfl⟩
 have k0 : W0.heap[w1.heap.size]? = some (.cells #[.slice A0 l0.length c0] 28 (0, 0)) := by rw [← hW0]; exact tl_three_0 _ _ _ _
 have k1 : W0.heap[w1.heap.size + 1]? = some (.cells #[.int .i64 t] 3 (0, 0)) := by rw [← hW0]; exact tl_three_1 _ _ _ _
 have k2 : W0.heap[w1.heap.size + 2]? = some (.cells #[.int .i64 u] 3 (0, 0)) := by rw [← hW0]; exact tl_three_2 _ _ _ _
 have hb0 : Below w1.heap.size w1 W0 := by rw [← hW0]; exact tl_three_below _ _ _ _
 have HW0 := Aside0.mk (below_then HB1.out HB1.out.size hb0)
 have HC0 := Aside0.mk (tl_RC.below HC4.out hb0)
 have hs2 : w.heap.size + 1 < w1.heap.size := (Array.getElem?_eq_some_iff.1 HC4.out.2).1
 have hs3 : w1.heap.size + 2 < W0.heap.size := (Array.getElem?_eq_some_iff.1 k2).1
 rw [show ((w1.alloc (.cells #[.slice A0 l0.length c0] 28)).alloc (.cells #[.int .i64 t] 3)).alloc (.cells #[.int .i64 u] 3) = W0 from hW0]
 refine wpIn_rangeFunc_ownH rfl h1 (gf := 90) (lb := #[.pointer (some ⟨w1.heap.size, 0, none⟩), .pointer (some ⟨w1.heap.size + 1, 0, none⟩), .pointer (some ⟨w1.heap.size + 2, 0, none⟩)]) rfl trivial (enters_of Tryd.func90 (by kernel_rfl) rfl)
  (tl_within_stops (n - 1) (by omega) w1.heap.size (w1.heap.size + 1) (w1.heap.size + 2) A0 c0 l0 t u w W0 (by omega) (by omega) (by omega) ((blk_cell k0 0).trans rfl) ((blk_cell k1 0).trans rfl) ((blk_cell k2 0).trans rfl) HW0.out HR.out (by omega))
  (fun h k => h.then_ k (fun _ hk => .inl hk)) ?hKb (Below.refl _ _) (fun _ => rfl)
  (fun pre W => Aside0 (pre = []) ∧ tl_RC W w.heap.size (w.heap.size + 1) 0 0 ∧ Below w.heap.size w W ∧ W0.heap.size ≤ W.heap.size)
  (fun c pre W => ∃ x, c = .ret ∧ pre = [x] ∧ tl_RC W w.heap.size (w.heap.size + 1) x.f2 0 ∧ Below w.heap.size w W)
  ?hI ?hIx
  ⟨⟨rfl⟩, HC0.out, HW0.out, Nat.le_refl _⟩
  (fun x a' W => ∃ Bx, W0.heap.size ≤ Bx ∧ W.heap[Bx]? = some (.cells #[.int .i64 x.f0, .int .i64 x.f1, .int .i64 x.f2] 74 (0, 0)) ∧ a' = { tmps := #[.slice A0 l0.length c0, .int .i64 t, undef, undef, .pointer (some ⟨w.heap.size, 0, none⟩), .pointer (some ⟨w.heap.size + 1, 0, none⟩), .pointer (some ⟨Bx, 0, none⟩), .slice A0 l0.length c0, .bool true, .slice A0 l0.length c0, .int .i64 t, .int .i64 t, .int .i64 u, .func (.func 90) #[] #[.pointer (some ⟨w1.heap.size, 0, none⟩), .pointer (some ⟨w1.heap.size + 1, 0, none⟩), .pointer (some ⟨w1.heap.size + 2, 0, none⟩)], .agg #[.int .i64 x.f0, .int .i64 x.f1, .int .i64 x.f2], undef, undef], defers := [] })
  ?hAx
  ?assign ?body ?done ?stop
 case hKb =>
  intro W l o o' hl ho hc _
  exact Kept.of_grown (grownBy_putObj' W l o') (Kept.refl W _) (fun k e => by cases e; exact .inl ⟨by have := HW0.out.size; omega, by omega, by omega, by omega⟩)
 case hI =>
  rintro s X Y row ⟨hs1, hs2', hs3', hs4⟩ hg hr
  exact ⟨hs1, hs2'.own hg (fun r e => (hr r e).2), hs3'.grown hg hs3'.size (fun r e => by have := (hr r e).1; have := HW0.out.size; omega), Nat.le_trans hs4 hg.size⟩
 case hIx =>
  rintro c s X Y row ⟨x, hs1, hs2', hs3', hs4⟩ hg hr
  exact ⟨x, hs1, hs2', hs3'.own hg (fun r e => (hr r e).2), hs4.grown hg hs4.size (fun r e => by have := (hr r e).1; have := HW0.out.size; omega)⟩
 case hAx =>
  rintro x a' _ X Y row ⟨Bx, h1, h2, h3⟩ hg hr
  refine ⟨Bx, h1, (hg.block Bx (Array.getElem?_eq_some_iff.1 h2).1 (fun e => ?_)).trans h2, h3⟩
  obtain ⟨o, ho, hc⟩ := (hr Bx e.symm).2
  rw [h2] at ho
  cases ho
  cases hc
 case assign =>
  rintro l pre x W K ⟨hp, hS1, hz1, hk1⟩ hK
  have HS1 := Aside0.mk hS1
  have HZ1 := Aside0.mk hz1
  clear hS1 hz1
  gi_wp2
  exact hK _ _ ((KeepsOthers.alloc _ _).from _) (Kept.alloc (Kept.refl _ _) _) ⟨hp, tl_RC.below HS1.out (below_alloc (Below.refl _ _) _), tl_below_alloc' HZ1.out _, by simp; omega⟩ ⟨W.heap.size, hk1, World.alloc_heap_new _ _, rfl⟩
 case body =>
  rintro l pre x a' W hl ⟨r, hr⟩ ⟨hp, hS1, hz1, hk1⟩ ⟨Bx, hBx, bX, rfl⟩ hlt
  have x0 := (blk_cell bX 2).trans rfl
  have c4 := hS1.1.cell
  have f4 := hS1.1.frozen
  have c5 := hS1.2.cell
  have f5 := hS1.2.frozen
  have HS1 := Aside0.mk hS1
  have HZ1 := Aside0.mk hz1
  have g5 : ∀ v, (W.setCell ⟨w.heap.size, 0, none⟩ v).cell? ⟨w.heap.size + 1, 0, none⟩ = some (.int .i64 0) := fun v => (cell_far (by simp) v).trans c5
  have h5 : ∀ v, (W.setCell ⟨w.heap.size, 0, none⟩ v).frozen? ⟨w.heap.size + 1, 0, none⟩ = false := fun v => by rw [World.frozen?_setCell]; exact f5
  clear hS1 hz1 hr bX hlt
  gi_wp2
  exact ⟨((KeepsOthers.setCell _ _ _).trans (KeepsOthers.setCell _ _ _)).from _, x, rfl, by rw [hp.out]; rfl, tl_RC.set HS1.out, (HZ1.out.setCell (p := ⟨w.heap.size, 0, none⟩) (Nat.le_refl _) _).setCell (p := ⟨w.heap.size + 1, 0, none⟩) (by simp) _⟩
 case done =>
  rintro D ys W hD hys ⟨⟨rfl⟩, hS1, hz1, hk1⟩ hK
  have e0 : tl_atP l0 t = (0, 150) := by unfold tl_atP; rw [HU.out, ← hys]; rfl
  have E0 := Aside0.mk e0
  clear e0 hys
  have c4 := hS1.1.cell
  have f4 := hS1.1.frozen
  have c5 := hS1.2.cell
  have f5 := hS1.2.frozen
  have HS1 := Aside0.mk hS1
  have HZ1 := Aside0.mk hz1
  have g5 : ∀ v, (W.setCell ⟨w.heap.size, 0, none⟩ v).cell? ⟨w.heap.size + 1, 0, none⟩ = some (.int .i64 0) := fun v => (cell_far (by simp) v).trans c5
  have h5 : ∀ v, (W.setCell ⟨w.heap.size, 0, none⟩ v).frozen? ⟨w.heap.size + 1, 0, none⟩ = false := fun v => by rw [World.frozen?_setCell]; exact f5
  clear hS1 hz1
  gi_wp2
  have hK' := ((KeepsOthers.setCell W ⟨w.heap.size, 0, none⟩ (.int .i64 0)).trans (KeepsOthers.setCell _ ⟨w.heap.size + 1, 0, none⟩ (.int .i64 150))).same D _ hK rfl
  refine ⟨by simp, .inl ⟨_, _, rfl, run_takeDeferred hK', ?_⟩⟩
  have hrc := (tl_RC.set (x' := 0) (y' := 150) HS1.out).own (grownBy_putObj' _ D (.deferred none)) (fun r e => by cases e; exact ⟨_, hK', rfl⟩)
  have k4 := hrc.1.cell
  have k5 := hrc.2.cell
  refine ⟨.tuple #[.int .i64 0, .int .i64 150], by simp [results, Tryd.f35, go_sem, k4, k5], by rw [E0.out], ?_⟩
  exact ((HZ1.out.setCell (p := ⟨w.heap.size, 0, none⟩) (Nat.le_refl _) _).setCell (p := ⟨w.heap.size + 1, 0, none⟩) (by simp) _).grown (grownBy_putObj' _ D (.deferred none)) (by simp; exact HZ1.out.size) (fun r e => by cases e; have := HW0.out.size; omega)
 case stop =>
  rintro D c pre W hD hpre ⟨x, rfl, rfl, hS1, hz1⟩ hK
  have e0 : tl_atP l0 t = (x.f2, 0) := by
   obtain ⟨q, hq⟩ := hpre
   unfold tl_atP; rw [HU.out, ← hq]; rfl
  have E0 := Aside0.mk e0
  clear e0 hpre
  have HS1 := Aside0.mk hS1
  have HZ1 := Aside0.mk hz1
  clear hS1 hz1
  gi_wp2
  refine ⟨by simp, .inl ⟨_, _, rfl, run_takeDeferred hK, ?_⟩⟩
  have hrc := HS1.out.own (grownBy_putObj' _ D (.deferred none)) (fun r e => by cases e; exact ⟨_, hK, rfl⟩)
  have k4 := hrc.1.cell
  have k5 := hrc.2.cell
  refine ⟨.tuple #[.int .i64 x.f2, .int .i64 0], by simp [results, Tryd.f35, go_sem, k4, k5], by rw [E0.out], ?_⟩
  exact HZ1.out.grown (grownBy_putObj' _ D (.deferred none)) HZ1.out.size (fun r e => by cases e; have := HW0.out.size; omega)

set_option maxRecDepth 100000 in
set_option maxHeartbeats 1000000 in
theorem tl_at_no (A0 : Option Addr) (c0 : Nat) (l0 : List S74) (t : Int) (w : World) (hr0 : Kd.C k74 w A0 l0.length l0) (hc0 : l0.length ≤ c0) (hv : tl_validB l0 = false) :
  Calls Tryd.prog 35 #[.slice A0 l0.length c0, .int .i64 t] w fun e w' => e = .returned (.tuple #[.int .i64 0, .int .i64 150]) ∧ Below w.heap.size w w' := by
 have hn0 := hr0.2.1
 have HR := Aside0.mk hr0
 have HC := Aside0.mk hc0
 have HVF := Aside0.mk ((tl_valid_f l0 hn0 (k := l0.length + 1) (by omega)).trans (by rw [hv]))
 clear hr0 hc0 hn0 hv
 go_enter Tryd.func35, Tryd.ntmps35
 go_wp2_with fail
 refine (timeline_Valid.calls _ _ _ l0 false _ (Kd.C_below HR.out (below_alloc (below_alloc (Below.refl _ _) _) _)) HC.out HVF.out).mono ?_
 rintro e w1 ⟨rfl, hb1⟩
 have HB1 := Aside0.mk (below_then (below_alloc (below_alloc (Below.refl w.heap.size w) _) _) (by simp; omega) hb1)
 have hS1 := (tl_RC.below (show tl_RC _ w.heap.size (w.heap.size + 1) 0 0 from ⟨(Boxed.new w 3 (.int .i64 0)).alloc _, by have := Boxed.new (w.alloc (.cells #[.int .i64 0] 3)) 38 (.int .i64 0); rwa [World.size_alloc] at this⟩) hb1)
 have c4 := hS1.1.cell
 have f4 := hS1.1.frozen
 have c5 := hS1.2.cell
 have f5 := hS1.2.frozen
 have HS1 := Aside0.mk hS1
 have g5 : ∀ v, (w1.setCell ⟨w.heap.size, 0, none⟩ v).cell? ⟨w.heap.size + 1, 0, none⟩ = some (.int .i64 0) := fun v => (cell_far (by simp) v).trans c5
 have h5 : ∀ v, (w1.setCell ⟨w.heap.size, 0, none⟩ v).frozen? ⟨w.heap.size + 1, 0, none⟩ = false := fun v => by rw [World.frozen?_setCell]; exact f5
 clear hb1 hS1
 go_wp2
 have hrc := tl_RC.set (x' := 0) (y' := 150) HS1.out
 have k4 := hrc.1.cell
 have k5 := hrc.2.cell
 exact bodyPost_ret (v := .tuple #[.int .i64 0, .int .i64 150]) (by simp [results, Tryd.f35, go_sem, k4, k5]) rfl ⟨rfl, (HB1.out.setCell (p := ⟨w.heap.size, 0, none⟩) (Nat.le_refl _) _).setCell (p := ⟨w.heap.size + 1, 0, none⟩) (by simp) _⟩
theorem timeline_At.calls (A0 : Option Addr) (c0 : Nat) (l0 : List S74) (a1 : Int) (r1 r2 : Int) (w : World) (hr0 : Kd.C k74 w A0 l0.length l0) (hc0 : l0.length ≤ c0) (h : timeline_At.f l0 a1 = some (r1, r2)) :
  Calls Tryd.prog 35 #[.slice A0 l0.length c0, .int .i64 a1] w fun e w' => e = .returned (.tuple #[.int .i64 r1, .int .i64 r2]) ∧ Below w.heap.size w w' := by
 unfold timeline_At.f at h
 replace h := Option.some.inj h
 by_cases hc : tl_validB l0 = true
 ·rw [if_pos hc] at h
  have e1 : r1 = (tl_atP l0 a1).1 := by rw [h]
  have e2 : r2 = (tl_atP l0 a1).2 := by rw [h]
  rw [e1, e2]
  exact callsIn_wide.1 (tl_at_in 6 (Nat.le_refl _) A0 c0 l0 a1 w hr0 hc0 hc)
 ·rw [if_neg hc] at h
  obtain ⟨rfl, rfl⟩ := Prod.mk.inj h
  exact tl_at_no A0 c0 l0 a1 w hr0 hc0 (by simpa using hc)

end Go.Proofs.YtglcdgalimgkeaaDoor.PJB
