-- PRINTED by print.py (a twelfth state) out of the translation. Not trusted: Lean checks it.
import Derived.Test.YtglcdgalimgkeaaDoorPJBx0
import Derived.Test.YtglcdgalimgkeaaDoorPJBx11
import Derived.Test.YtglcdgalimgkeaaDoorPJBx12
import Derived.Test.YtglcdgalimgkeaaDoorPJBx13
import Derived.Test.YtglcdgalimgkeaaDoorPJBx14
import Derived.Test.YtglcdgalimgkeaaDoorPJBx15
import Derived.Test.YtglcdgalimgkeaaDoorPJBx16
import Derived.Test.YtglcdgalimgkeaaDoorPJBx17
import Derived.RangeFuncNested
import Derived.RangeFuncBound
import Derived.RangeFuncCalls
import Derived.RangeFuncLeaves
import Derived.RangeFuncBox
import Derived.Shelf.Abstract
import Derived.Shelf.RegionOpen
import Derived.OwnWalkIn
import Derived.TacticsInMore
import Derived.LoopNIn
import Derived.LoopIn
import Derived.OneCell
import Derived.BigQuiet
import Derived.Deep.RegionWith
import Derived.Deep.RegionHeld3
import Derived.Deep.RegionLaw
import Derived.IntWalk
import Derived.Lib.SliceRun
import Derived.Laws.EntriesVeiled
import Derived.Sort.QuietIn
import Derived.Deep.RegionLawGrows
namespace Go.Proofs.YtglcdgalimgkeaaDoor.PJB
open Go.RowKit Go.Proofs.YtglcdgalimgkeaaDoorW.PrintWords Go.Proofs.YtglcdgalimgkeaaDoorW.PrintLast Go.Proofs.YtglcdgalimgkeaaDoorW.PrintMore
attribute [local go_sem] max2_int min2_int max_two min_two max_three min_three max_four min_four   -- for this text's walks alone
set_option linter.unusedVariables false
set_option linter.unusedSimpArgs false

attribute [local go_sem] Oper.semAt_some
open Go.Shelf
-- given by hand: jd6
/-- What a round of Proven leaves. -/
def JpI (w W0 : World) (ob : Nat) (owner : Int) (out : List S79) (W : World) : Prop := ∃ u, W.heap[ob]? = some (.cells #[u] 42 (0, 0)) ∧ Kd.R k79 79 W w.heap.size (fun k => k ≠ ob) u out ∧ W.heap[w.heap.size]? = some (.cells #[.int .i64 owner] 3 (0, 0)) ∧ Below w.heap.size w W ∧ W0.heap.size ≤ W.heap.size
def JpR (w : World) (ob k : Nat) (o : Obj) : Prop := (w.heap.size ≤ ob ∧ k = ob ∧ ∃ cs, o = .cells cs 42 (0, 0)) ∨ (w.heap.size ≤ k ∧ ∃ cs, o = .cells cs 79 (0, 0))
theorem jp_typed {w : World} {base B : Nat} {u : Value} {xs : List S79} (h : Kd.R k79 79 w base (fun k => k ≠ B) u xs) : Kd.R k79 79 w base (fun k => base ≤ k ∧ k ≠ B ∧ ∃ cells, w.heap[k]? = some (.cells cells 79 (0, 0))) u xs :=
 Kd.R_mono (Kd.R_bound h) (fun k hk => by
  obtain ⟨h1, h2, _, q, hq, cells, hc⟩ := hk
  have : q = 79 := by simpa [k79, Kd.iso, Kd.pair, Kd.int, Kd.scalar] using hq
  subst this
  exact ⟨h2, h1, cells, hc⟩)
theorem jp_own {w W : World} {ob k : Nat} {u : Value} {xs : List S79} (h : Kd.R k79 79 W w.heap.size (fun k => k ≠ ob) u xs) (hu : u.ownBlock = some k) : w.heap.size ≤ k ∧ k ≠ ob ∧ ∃ cells, W.heap[k]? = some (.cells cells 79 (0, 0)) := (jp_typed h).1 k hu
theorem jp_keep {w W W5 : World} {ob : Nat} {u : Value} {out : List S79} (hob : w.heap.size ≤ ob) (h1 : W.heap[ob]? = some (.cells #[u] 42 (0, 0))) (h2 : Kd.R k79 79 W w.heap.size (fun k => k ≠ ob) u out) (hs : W.heap.size ≤ W5.heap.size)
  (hk : ∀ k, k < W.heap.size → k ≠ ob → some k ≠ u.ownBlock → W5.heap[k]? = W.heap[k]?) : (∀ base, KeepsFrom base W W5) ∧ JK w.heap.size (JpR w ob) W W5 := by
 have h : ∀ k o, W.heap[k]? = some o → ¬ JpR w ob k o → W5.heap[k]? = some o := fun k o ho hn => by
  rw [hk k (Array.getElem?_eq_some_iff.1 ho).1 (fun e => hn (.inl ⟨hob, e, _, by rw [e, h1] at ho; exact (Option.some.inj ho).symm⟩)) (fun e => by
   obtain ⟨h3, _, cs, h4⟩ := jp_own h2 e.symm
   exact hn (.inr ⟨h3, cs, by rw [h4] at ho; exact (Option.some.inj ho).symm⟩))]
  exact ho
 exact ⟨fun base => ⟨hs, fun k o _ ho hc => h k o ho (fun hr => by rcases hr with ⟨_, _, cs, e⟩ | ⟨_, cs, e⟩ <;> (rw [e] at hc; cases hc))⟩, hs, fun k o ho _ hn => h k o ho hn⟩
theorem JpI.own {w W0 X Y : World} {ob : Nat} {owner : Int} {out : List S79} {row : Option Nat} (h : JpI w W0 ob owner out X) (hg : X.grownBy Y row) (hr : ∀ r, row = some r → w.heap.size ≤ r ∧ ∃ o : Obj, X.heap[r]? = some o ∧ o.isCells = false) : JpI w W0 ob owner out Y := by
 obtain ⟨u, i1, i2, i3, i4, i5⟩ := h
 have hne : ∀ k, (∃ cells q, X.heap[k]? = some (.cells cells q (0, 0))) → some k ≠ row := by
  rintro k ⟨cells, q, hk⟩ e
  obtain ⟨_, o, h1, h2⟩ := hr k e.symm
  rw [hk] at h1
  cases h1
  cases h2
 exact ⟨u, jd_own hg i1 (fun r e hk => hne r ⟨_, _, hk ▸ i1⟩ e.symm), Kd.R_mono (Kd.R_grown (Kd.R_bound i2) hg (fun k hk => by obtain ⟨_, _, _, q, _, cells, hc⟩ := hk; exact hne k ⟨cells, q, hc⟩)) (fun k hk => hk.1), jd_own hg i3 (fun r e hk => hne r ⟨_, _, hk ▸ i3⟩ e.symm), i4.grown hg i4.size (fun r e => (hr r e).1), Nat.le_trans i5 hg.size⟩
theorem JpI.below {w W0 X Y : World} {ob : Nat} {owner : Int} {out : List S79} (h : JpI w W0 ob owner out X) (hb : Below X.heap.size X Y) : JpI w W0 ob owner out Y := h.own (grown_of_below hb none) (by simp)
theorem jp_R_at {w : World} {base : Nat} {ok : Nat → Prop} {A : Option Addr} {n c : Nat} {xs : List S79} (h : Kd.R k79 79 w base ok (.slice A n c) xs) (hn : xs ≠ []) : ∃ g, A = some ⟨g, 0, none⟩ ∧ ok g ∧ base ≤ g ∧ g < w.heap.size ∧ ∀ j, w.frozen? ⟨g, j, none⟩ = false := by
 obtain ⟨h0, inner, ho, hr⟩ := h
 rcases ho.2 with ⟨hv, he⟩ | ⟨g, cap, cur, hv, hg, hh, _⟩
 ·injection hv with h1 h2 h3
  exact absurd (List.eq_nil_of_length_eq_zero he) hn
 ·injection hv with h1 h2 h3
  exact ⟨g, h1, h0 g (by rw [h1]; rfl), hg, (Array.getElem?_eq_some_iff.1 hh).1, fun j => blk_frozen hh j⟩
theorem jp_same_row {P0 : Nat → Prop} {xs : List S79} {z : S79} {n cc g : Nat} {b : Int} {base : Nat} {w : World} (hn : xs.length = n) (h2 : Kd.R k79 79 w base P0 (.slice (some ⟨g, 0, none⟩) (n + 1) cc) (xs ++ [z])) :
  Kd.R k79 79 (w.setCell ⟨g, n * 2 + 1, none⟩ (.int .i64 b)) base P0 (.slice (some ⟨g, 0, none⟩) (n + 1) cc) (xs ++ [⟨z.f0, b⟩]) := by
 obtain ⟨ad, e, hx0, hx1⟩ := at_T79 (Kd.R_reads' h2).2.2 (n : Int) (by omega) (by simp; omega)
 obtain rfl := Option.some.inj e
 have hz : rd_T79 (xs ++ [z]) (n : Int) = z := by simp [rd_T79, ← hn]
 rw [hz, add_plain, Int.toNat_natCast] at hx0 hx1
 have h3 := (Kd.R_seg h2 (n : Int) (by omega) (by omega) (c := [.int .i64 z.f0, .int .i64 z.f1]) (seg := [.int .i64 b]) (j := 1) rfl (by
  intro j u hu
  rw [Int.toNat_natCast]
  match j, hu with
  | 0, hu => cases hu; exact hx0
  | 1, hu => cases hu; exact hx1) (show 2 ≤ 2 by omega) (x' := ⟨z.f0, b⟩) (okp := fun _ => False) (k79_mkM _ _ _ ⟨z.f0, b⟩) (fun _ h => h.elim)).1
 have e1 : (xs ++ [z]).set (n : Int).toNat ⟨z.f0, b⟩ = xs ++ [⟨z.f0, b⟩] := by rw [Int.toNat_natCast, ← hn, List.set_append_right _ _ (Nat.le_refl _)]; simp
 rw [e1, Int.toNat_natCast] at h3
 exact h3
set_option maxRecDepth 100000 in
set_option maxHeartbeats 8000000 in
theorem jp_proven_in (n : Nat) (hn : 6 ≤ n) (k : Nat) (A0 : Option Addr) (c0 : Nat) (l0 : List S74) (a1 : Int) (A2 : Option Addr) (c2 : Nat) (l2 : List S54) (A3 : Option Addr) (c3 : Nat) (l3 : List S54) (a4 : Int) (w : World) (hG : GG w) (hr0 : Kd.C k74 w A0 l0.length l0) (hc0 : l0.length ≤ c0) (hr2 : Kd.C k54 w A2 l2.length l2) (hc2 : l2.length ≤ c2) (hr3 : Kd.C k54 w A3 l3.length l3) (hc3 : l3.length ≤ c3) (hv : judge_evidence_valid.f k l0 a1 l2 l3 = some true) :
  CallsIn Fence.wide n Tryd.prog 19 #[.slice A0 l0.length c0, .int .i64 a1, .slice A2 l2.length c2, .slice A3 l3.length c3, .int .i64 a4] w fun e w' => ∃ v0_ : Value, e = .returned (.tuple #[v0_, .int .i64 0]) ∧ Kd.R k79 79 w' w.heap.size (fun _ => True) v0_ (jp_res l0 a1 l2 l3 a4) ∧ Below w.heap.size w w' := by
 have h1 : 1 ≤ n := by omega
 have HOK := Aside0.mk (jd_ok hr0.2.1 hv)
 have HG := Aside0.mk hG
 have HR0 := Aside0.mk hr0
 have HR2 := Aside0.mk hr2
 have HR3 := Aside0.mk hr3
 have HC0 := Aside0.mk hc0
 have HC2 := Aside0.mk hc2
 have HC3 := Aside0.mk hc3
 have HV := Aside0.mk hv
 clear hG hr0 hr2 hr3 hc0 hc2 hc3 hv
 refine callsIn_of_wp_marks Tryd.func19 rfl trivial ?_ rfl
 simp only [Tryd.ntmps19, List.size_toArray, List.length_cons, List.length_nil, Nat.reduceAdd, Nat.reduceSub, Array.replicate_succ, Array.replicate_zero, List.push_toArray, List.append_toArray, List.nil_append, List.cons_append]
 gi_wp2_with fail
 obtain ⟨Wa, hWa⟩ : ∃ Wa, (w.alloc (.cells #[.int .i64 a4] 3)).alloc (.cells #[.slice A0 l0.length c0, .int .i64 a1, .slice A2 l2.length c2, .slice A3 l3.length c3] 103) = Wa := ⟨_, rfl⟩
 obtain ⟨p1, p3, p4, p5⟩ := jd_b2 _ _ _ _ _ _ hWa
 rw [hWa]
 clear hWa
 refine ⟨trivial, ?_⟩
 refine (callsIn_wide.2 (judge_evidence_valid.calls k _ _ l0 a1 _ _ l2 _ _ l3 true _ (Kd.C_below HR0.out p4) HC0.out (Kd.C_below HR2.out p4) HC2.out (Kd.C_below HR3.out p4) HC3.out HV.out)).mono ?_
 rintro e w1 ⟨rfl, hb1⟩
 have P1 := Aside0.mk (blk_below p1 hb1)
 have P3 := blk_below p3 hb1
 have HB1 := Aside0.mk (below_step p4 hb1)
 have HSZ := Aside0.mk (Nat.le_trans (Nat.le_of_eq p5.symm) hb1.size)
 have q0 := (blk_cell P3 0).trans rfl
 have q1 := (blk_cell P3 1).trans rfl
 have q2 := (blk_cell P3 2).trans rfl
 have q3 := (blk_cell P3 3).trans rfl
 have Q0 : ∀ o : Obj, (w1.alloc o).cell? ⟨w.heap.size + 1, 0, none⟩ = some (.slice A0 l0.length c0) := fun o => pw_cell_below (below_alloc (Below.refl _ _) o) q0
 have Q1 : ∀ o : Obj, (w1.alloc o).cell? ⟨w.heap.size + 1, 1, none⟩ = some (.int .i64 a1) := fun o => pw_cell_below (below_alloc (Below.refl _ _) o) q1
 have Q2 : ∀ o : Obj, (w1.alloc o).cell? ⟨w.heap.size + 1, 2, none⟩ = some (.slice A2 l2.length c2) := fun o => pw_cell_below (below_alloc (Below.refl _ _) o) q2
 have Q3 : ∀ o : Obj, (w1.alloc o).cell? ⟨w.heap.size + 1, 3, none⟩ = some (.slice A3 l3.length c3) := fun o => pw_cell_below (below_alloc (Below.refl _ _) o) q3
 clear p1 p3 p4 p5 hb1 P3 q0 q1 q2 q3
 gi_wp2_with fail
 refine ⟨trivial, ?_⟩
 refine (callsIn_wide.2 (jd_sure_any _ _ _ _ _ _ _ _ _ _ _)).mono ?_
 rintro e w2 ⟨rfl, rfl⟩
 gi_wp2_with fail
 obtain ⟨W0, hW0⟩ : ∃ W0, (w1.alloc (.cells #[.slice none 0 0] 42)).alloc (.cells #[.slice A0 l0.length c0, .int .i64 a1, .slice A2 l2.length c2, .slice A3 l3.length c3] 103) = W0 := ⟨_, rfl⟩
 obtain ⟨p1, p2, p4, p5⟩ := jd_b2 _ _ _ _ _ _ hW0
 rw [hW0]
 clear hW0 Q0 Q1 Q2 Q3
 have hsz := HSZ.out
 have HP5 := Aside0.mk p5
 have hw5 : w1.heap.size < W0.heap.size ∧ w1.heap.size + 1 < W0.heap.size := by omega
 clear p5
 have HW0 := Aside0.mk (below_step HB1.out p4)
 refine wpIn_rangeFunc_ownH rfl h1 (gf := 85) (lb := #[.pointer (some ⟨w1.heap.size + 1, 0, none⟩)]) rfl trivial (enters_of Tryd.func85 (by kernel_rfl) rfl)
  (jd_stops (n - 1) (by omega) (w1.heap.size + 1) (JpR w w1.heap.size) w W0 A0 c0 l0 a1 A2 c2 l2 A3 c3 l3 (fun k o h => by rcases h with ⟨h, e, _⟩ | ⟨h, _⟩ <;> omega) p2 (fun h => by rcases h with ⟨_, e, _⟩ | ⟨_, cs, e⟩; exact absurd e (by omega); cases e) (fun k cs h => by rcases h with ⟨_, _, cs', h⟩ | ⟨_, cs', h⟩ <;> cases h) HW0.out HG.out HR0.out HR2.out HR3.out HOK.out)
  (fun h k => h.trans k) ?hKb (Below.refl _ _) (fun _ => rfl)
  (fun pre W => JpI w W0 w1.heap.size a4 (jp_run a4 pre) W ∧ Aside0 ((jp_run a4 pre).length ≤ pre.length))
  (fun _ _ _ => False)
  ?hI
  (fun _ _ _ _ _ hs _ _ => hs)
  ⟨⟨.slice none 0 0, p1, Kd.R_nil _ _ _ _ _, blk_below P1.out p4, HW0.out, Nat.le_refl _⟩, ⟨Nat.le_refl _⟩⟩
  (fun x a' W => ∃ Bx, W0.heap.size ≤ Bx ∧ W.heap[Bx]? = some (.cells #[.int .i64 x.1, .int .i64 x.2.1, .int .i64 x.2.2.f0, .int .i64 x.2.2.f1] 108 (0, 0)) ∧ a' = { tmps := #[.slice A0 l0.length c0, .int .i64 a1, .slice A2 l2.length c2, .slice A3 l3.length c3, .int .i64 a4, undef, undef, undef, undef, .pointer (some ⟨w.heap.size, 0, none⟩), .slice none 0 0, .int .i64 0, .pointer (some ⟨w.heap.size + 1, 0, none⟩), .pointer (some ⟨w1.heap.size, 0, none⟩), .pointer (some ⟨Bx, 0, none⟩), undef, .slice A0 l0.length c0, .int .i64 a1, .slice A2 l2.length c2, .slice A3 l3.length c3, .agg #[.slice A0 l0.length c0, .int .i64 a1, .slice A2 l2.length c2, .slice A3 l3.length c3], .agg #[.slice A0 l0.length c0, .int .i64 a1, .slice A2 l2.length c2, .slice A3 l3.length c3], .bool true, .bool false, .agg #[.slice A0 l0.length c0, .int .i64 a1, .slice A2 l2.length c2, .slice A3 l3.length c3], .func (.func 85) #[] #[.pointer (some ⟨w1.heap.size + 1, 0, none⟩)], .agg #[.int .i64 x.1, .int .i64 x.2.1, .int .i64 x.2.2.f0, .int .i64 x.2.2.f1], undef, undef, undef, undef, undef, undef, undef, undef, undef, undef, undef, undef, undef, undef, undef, undef, undef, undef, undef, undef, undef, undef, undef, undef, undef, undef, undef, undef, undef, undef, undef, undef, undef, undef, undef, undef, undef, undef, undef, undef, undef, undef, undef, undef, undef, undef, undef, undef], defers := [] })
  ?hAx
  ?assign ?body ?done ?stop
 case hKb =>
  intro W l o o' hl ho hc _
  exact ⟨by simp, fun k o2 hk hb hn => by
   by_cases hkl : k = l
   ·subst hkl
    rw [ho] at hk
    cases hk
    rcases hb with hb | hb
    ·have := HW0.out.size; omega
    ·rw [hc] at hb; cases hb
   ·exact jd_own (grownBy_putObj' W l o') hk (fun r e => by cases e; exact hkl)⟩
 case hI =>
  rintro s X Y row ⟨i1, i2⟩ hg hr
  exact ⟨i1.own hg (fun r e => ⟨by have := (hr r e).1; have := HW0.out.size; omega, (hr r e).2⟩), i2⟩
 case hAx =>
  rintro x a' _ X Y row ⟨Bx, h1, h2, h3⟩ hg hr
  refine ⟨Bx, h1, jd_own hg h2 (fun r e hk => ?_), h3⟩
  obtain ⟨o, ho, hc⟩ := (hr r e).2
  rw [← hk, h2] at ho
  cases ho
  cases hc
 case assign =>
  rintro l pre x W K ⟨i1, i2⟩ hK
  have i5 : W0.heap.size ≤ W.heap.size := by obtain ⟨_, _, _, _, _, h⟩ := i1; exact h
  have I1 := Aside0.mk i1
  clear i1
  simp only [jd_enc]
  gi_wp2
  have hb := below_alloc (Below.refl W.heap.size W) (.cells #[.int .i64 x.1, .int .i64 x.2.1, .int .i64 x.2.2.f0, .int .i64 x.2.2.f1] 108)
  exact hK _ _ ((KeepsOthers.alloc _ _).from _) (JK.of_below hb) ⟨I1.out.below hb, i2⟩ ⟨W.heap.size, i5, World.alloc_heap_new _ _, rfl⟩
 case body =>
  rintro l pre x a' W hl ⟨rc, hrc⟩ ⟨⟨u, i1, i2, i3, i4, i5⟩, i6⟩ ⟨Bx, hBx, bX, rfl⟩ hlt
  obtain ⟨A, cc, rfl⟩ := Kd.R_slice i2
  obtain ⟨out, hout⟩ : ∃ out, jp_run a4 pre = out := ⟨_, rfl⟩
  rw [hout] at i1 i2 i6
  have hlen : out.length ≤ 200 := by have := i6.out; have := HOK.out.la; omega
  have HOUT := Aside0.mk hout
  have hob : w.heap.size ≤ w1.heap.size := HB1.out.size
  have z0 : W.cell? ⟨w1.heap.size, 0, none⟩ = some (.slice A out.length cc) := (blk_cell i1 0).trans rfl
  have y0 := blk_frozen i1 0
  have x0 : W.cell? ⟨Bx, 0, none⟩ = some (.int .i64 x.1) := (blk_cell bX 0).trans rfl
  have x1 : W.cell? ⟨Bx, 1, none⟩ = some (.int .i64 x.2.1) := (blk_cell bX 1).trans rfl
  have x2 : W.cell? ⟨Bx, 2, none⟩ = some (.int .i64 x.2.2.f0) := (blk_cell bX 2).trans rfl
  have x3 : W.cell? ⟨Bx, 3, none⟩ = some (.int .i64 x.2.2.f1) := (blk_cell bX 3).trans rfl
  have kx : W.cell? ⟨w.heap.size, 0, none⟩ = some (.int .i64 a4) := (blk_cell i3 0).trans rfl
  have I1 := Aside0.mk i1
  have I2 := Aside0.mk i2
  have I3 := Aside0.mk i3
  have I4 := Aside0.mk i4
  have I6 := Aside0.mk i6.out
  have fin : ∀ W5 u' out', W.heap.size ≤ W5.heap.size → (∀ k, k < W.heap.size → k ≠ w1.heap.size → some k ≠ (Value.slice A out.length cc).ownBlock → W5.heap[k]? = W.heap[k]?) → W5.heap[w1.heap.size]? = some (.cells #[u'] 42 (0, 0)) → Kd.R k79 79 W5 w.heap.size (fun k => k ≠ w1.heap.size) u' out' → Below w.heap.size w W5 → jp_step a4 out x = out' →
    KeepsFrom W0.heap.size W W5 ∧ JK w.heap.size (JpR w w1.heap.size) W W5 ∧ (JpI w W0 w1.heap.size a4 (jp_run a4 (pre ++ [x])) W5 ∧ Aside0 ((jp_run a4 (pre ++ [x])).length ≤ (pre ++ [x]).length)) := fun W5 u' out' hs hk h1 h2 hb he => by
   have kp := jp_keep hob I1.out I2.out hs hk
   rw [jp_run_snoc, HOUT.out, he]
   refine ⟨kp.1 _, kp.2, ⟨u', h1, h2, (hk _ (by have := I4.out.size; have := HSZ.out; omega) (by have := HSZ.out; omega) (fun e => by have h3 := (jp_own I2.out e.symm).2.2; obtain ⟨cs, h3⟩ := h3; rw [I3.out] at h3; cases h3)).trans I3.out, hb, Nat.le_trans i5 hs⟩, ⟨?_⟩⟩
   have h4 := jp_step_len a4 out x
   rw [he] at h4
   have := I6.out
   simp
   omega
  have FIN := Aside0.mk fin
  have skipE : ¬ (x.2.1 = a4 ∧ x.2.2.f0 = 1 ∧ x.2.2.f1 = wrap64 (a4 - 1)) → jp_step a4 out x = out := fun h => by unfold jp_step; rw [if_neg h]
  clear i1 i2 i3 i4 i6 bX hrc hlt hout fin
  have c0 : True := trivial
  by_cases d0 : x.2.1 = a4
  ·by_cases d1 : x.2.2.f0 = 1
   ·by_cases d2 : x.2.2.f1 = wrap64 (a4 - 1)
    ·have HEQ := Aside0.mk (show x.2.1 = a4 ∧ x.2.2.f0 = 1 ∧ x.2.2.f1 = wrap64 (a4 - 1) from ⟨d0, d1, d2⟩)
     have HI5 := Aside0.mk i5
     have HW0S := Aside0.mk (show w1.heap.size < W0.heap.size by omega)
     have HLEN := Aside0.mk hlen
     have HOB := Aside0.mk hob
     have OBL := Aside0.mk (show w1.heap.size < W.heap.size by omega)
     have OBN := Aside0.mk (show ¬ (Value.slice A out.length cc).ownBlock = some w1.heap.size from fun e => (jp_own I2.out e).2.1 rfl)
     rcases List.eq_nil_or_concat out with rfl | ⟨ys, z, hyz⟩
     ·have R1 := Aside0.mk (show W.heap[w1.heap.size]? = some (.cells #[.slice A 0 cc] 42 (0, 0)) from I1.out)
      have R2 := Aside0.mk (show Kd.R k79 79 W w.heap.size (fun k => k ≠ w1.heap.size) (.slice A 0 cc) [] from I2.out)
      replace z0 : W.cell? ⟨w1.heap.size, 0, none⟩ = some (.slice A 0 cc) := z0
      replace OBN := Aside0.mk (show ¬ (Value.slice A 0 cc).ownBlock = some w1.heap.size from OBN.out)
      gi_wp2_with fail
      have hSW : W.drew = W.drew := rfl
      refine jh_begin (S := fun w' => w' = W.drew) (c := 13) (by kernel_rfl) (fun _ => trivial) (by kernel_rfl) ?_
      refine jh_take (v := ?_) (by kernel_rfl) 0 hSW rfl (by decide) (by kernel_rfl) (by kernel_rfl) (by kernel_rfl) (fun _ _ _ h => h) (by rfl) ?_ ?_
      rotate_left
      ·intro w' hS'; subst hS'; go_simp; try with_reducible rfl
      simp only [Act.put, List.setIfInBounds_toArray, List.set_cons_zero, List.set_cons_succ]
      refine jh_take (v := ?_) (by kernel_rfl) 1 hSW rfl (by decide) (by kernel_rfl) (by kernel_rfl) (by kernel_rfl) (fun _ _ _ h => h) (by rfl) ?_ ?_
      rotate_left
      ·intro w' hS'; subst hS'; go_simp; try with_reducible rfl
      simp only [Act.put, List.setIfInBounds_toArray, List.set_cons_zero, List.set_cons_succ]
      refine jh_take (v := ?_) (by kernel_rfl) 2 hSW rfl (by decide) (by kernel_rfl) (by kernel_rfl) (by kernel_rfl) (fun _ _ _ h => h) (by rfl) ?_ ?_
      rotate_left
      ·intro w' hS'; subst hS'; go_simp; try with_reducible rfl
      simp only [Act.put, List.setIfInBounds_toArray, List.set_cons_zero, List.set_cons_succ]
      refine jh_skip (by kernel_rfl) 3 hSW rfl (by decide) (by kernel_rfl) (by kernel_rfl) (by kernel_rfl) (fun _ _ _ h => h) (by rfl) ?_
      simp only [Act.put, List.setIfInBounds_toArray, List.set_cons_zero, List.set_cons_succ]
      refine jh_skip (by kernel_rfl) 4 hSW rfl (by decide) (by kernel_rfl) (by kernel_rfl) (by kernel_rfl) (fun _ _ _ h => h) (by rfl) ?_
      simp only [Act.put, List.setIfInBounds_toArray, List.set_cons_zero, List.set_cons_succ]
      refine jh_skip (by kernel_rfl) 5 hSW rfl (by decide) (by kernel_rfl) (by kernel_rfl) (by kernel_rfl) (fun _ _ _ h => h) (by rfl) ?_
      simp only [Act.put, List.setIfInBounds_toArray, List.set_cons_zero, List.set_cons_succ]
      refine jh_skip (by kernel_rfl) 6 hSW rfl (by decide) (by kernel_rfl) (by kernel_rfl) (by kernel_rfl) (fun _ _ _ h => h) (by rfl) ?_
      simp only [Act.put, List.setIfInBounds_toArray, List.set_cons_zero, List.set_cons_succ]
      refine jh_skip (by kernel_rfl) 7 hSW rfl (by decide) (by kernel_rfl) (by kernel_rfl) (by kernel_rfl) (fun _ _ _ h => h) (by rfl) ?_
      simp only [Act.put, List.setIfInBounds_toArray, List.set_cons_zero, List.set_cons_succ]
      refine jh_skip (by kernel_rfl) 8 hSW rfl (by decide) (by kernel_rfl) (by kernel_rfl) (by kernel_rfl) (fun _ _ _ h => h) (by rfl) ?_
      simp only [Act.put, List.setIfInBounds_toArray, List.set_cons_zero, List.set_cons_succ]
      refine jh_skip (by kernel_rfl) 9 hSW rfl (by decide) (by kernel_rfl) (by kernel_rfl) (by kernel_rfl) (fun _ _ _ h => h) (by rfl) ?_
      simp only [Act.put, List.setIfInBounds_toArray, List.set_cons_zero, List.set_cons_succ]
      refine jh_skip (by kernel_rfl) 10 hSW rfl (by decide) (by kernel_rfl) (by kernel_rfl) (by kernel_rfl) (fun _ _ _ h => h) (by rfl) ?_
      simp only [Act.put, List.setIfInBounds_toArray, List.set_cons_zero, List.set_cons_succ]
      refine jh_skip (by kernel_rfl) 11 hSW rfl (by decide) (by kernel_rfl) (by kernel_rfl) (by kernel_rfl) (fun _ _ _ h => h) (by rfl) ?_
      simp only [Act.put, List.setIfInBounds_toArray, List.set_cons_zero, List.set_cons_succ]
      refine jh_take (v := ?_) (by kernel_rfl) 12 hSW rfl (by decide) (by kernel_rfl) (by kernel_rfl) (by kernel_rfl) (fun _ _ _ h => h) (by rfl) ?_ ?_
      rotate_left
      ·intro w' hS'; subst hS'; go_simp; try with_reducible rfl
      simp only [Act.put, List.setIfInBounds_toArray, List.set_cons_zero, List.set_cons_succ]
      refine jh_last (by kernel_rfl) rfl (by rfl) (fun K_ hK => ?_)
      go_simp
      refine hK.out _ _ ?_
      try simp only [Act.put, List.setIfInBounds_toArray, List.set_cons_zero, List.set_cons_succ]
      refine wpAnyIn_done (by kernel_rfl) ?_ _
      clear hK K_
      obtain ⟨Wd, hWd⟩ : ∃ Wd, W.drew = Wd := ⟨_, rfl⟩
      rw [hWd]
      have v0 : Wd.cell? ⟨w1.heap.size, 0, none⟩ = some (.slice A 0 cc) := by rw [← hWd]; exact z0
      have w0_ : Wd.frozen? ⟨w1.heap.size, 0, none⟩ = false := by rw [← hWd]; exact y0
      have x0_ : Wd.cell? ⟨Bx, 0, none⟩ = some (.int .i64 x.1) := by rw [← hWd]; exact x0
      have HD := Aside0.mk (show Wd.heap = W.heap by rw [← hWd]; rfl)
      have R1d := Aside0.mk (show Wd.heap[w1.heap.size]? = some (.cells #[.slice A 0 cc] 42 (0, 0)) by rw [HD.out]; exact R1.out)
      have R2d := Aside0.mk (show Kd.R k79 79 Wd w.heap.size (fun k => k ≠ w1.heap.size) (.slice A 0 cc) [] by rw [← hWd]; exact Kd.R_drew R2.out)
      have I4d := Aside0.mk (show Below w.heap.size w Wd by rw [← hWd]; exact below_drew I4.out)
      have OBLd := Aside0.mk (show w1.heap.size < Wd.heap.size by rw [HD.out]; exact OBL.out)
      clear z0 y0 x0 x1 x2 x3 kx hWd hSW
      gi_wp2_with (gi_at_builtin; refine jd_append_in k79 (w0 := w) w.heap.size rfl (.tmp 29) (.tmp 36) 42 79 (.agg #[(.int .i64 0), (.int .i64 0)]) 16 rfl Tryd.underlying42 info79 rfl (by decide) (by omega) (.slice A 0 cc) [] (⟨x.1, wrap64 (x.1 + 1)⟩ : S79) [.int .i64 x.1, .int .i64 (wrap64 (x.1 + 1))] (fun k_ => k_ ≠ w1.heap.size) (fun _ => False) rfl ?aX ?aP (fun _ hk => hk.elim) ?aF ?aO ?aB ?aS ?aL ?_; (case aX => rfl); (case aP => exact k79_mkM _ _ _ (⟨x.1, wrap64 (x.1 + 1)⟩ : S79)); (case aF => exact fun k_ hk e => by have h5 := OBLd.out; subst e; exact absurd (Nat.lt_of_lt_of_le h5 hk) (Nat.lt_irrefl _)); (case aO => exact R2d.out); (case aB => exact I4d.out); (case aS => exact I4d.out.size); (case aL => simp); intro v1 w3 ho hb hg; obtain ⟨A1, cc1, rfl⟩ := Kd.R_slice ho; have HO3 := Aside0.mk ho; have HB3 := Aside0.mk hb; have HG3 := Aside0.mk hg; have b3 : w3.heap[w1.heap.size]? = some (.cells #[.slice A 0 cc] 42 (0, 0)) := (hg.block _ OBLd.out (fun e => OBN.out e.symm)).trans R1d.out; have m0 := (blk_cell b3 0).trans rfl; have m1 := blk_frozen b3 0; have B3 := Aside0.mk b3; clear ho hb hg b3)
      exact FIN.out _ _ _ (by have := HG3.out.size; rw [HD.out] at this; simpa using this) (fun k_ hk h1 h2 => (Below.heap_setCell w3 _ _ k_ h1).trans ((HG3.out.block k_ (by rw [HD.out]; exact hk) h2).trans (by rw [HD.out]))) (by simpa using blk_set B3.out 0 (.slice A1 _ cc1)) (Kd.R_far HO3.out (fun k_ hk => hk) _) (below_set HB3.out HOB.out) (by unfold jp_step; rw [if_pos HEQ.out]; rfl)
     ·rw [List.concat_eq_append] at hyz
      subst hyz
      obtain ⟨m, hm⟩ : ∃ m, ys.length = m := ⟨_, rfl⟩
      have e0 : (ys ++ [z]).length = m + 1 := by simp [hm]
      have R1 := Aside0.mk (show W.heap[w1.heap.size]? = some (.cells #[.slice A (m + 1) cc] 42 (0, 0)) by have := I1.out; rwa [e0] at this)
      have R2 := Aside0.mk (show Kd.R k79 79 W w.heap.size (fun k => k ≠ w1.heap.size) (.slice A (m + 1) cc) (ys ++ [z]) by have := I2.out; rwa [e0] at this)
      replace z0 : W.cell? ⟨w1.heap.size, 0, none⟩ = some (.slice A (m + 1) cc) := by rw [e0] at z0; exact z0
      obtain ⟨g, rfl, gP, gb, gl, gf⟩ := jp_R_at R2.out (by simp)
      obtain ⟨ad, e, _, hx1⟩ := at_T79 (Kd.R_reads' R2.out).2.2 (m : Int) (by omega) (by simp [hm]; omega)
      cases e
      have hz : rd_T79 (ys ++ [z]) (m : Int) = z := by simp [rd_T79, ← hm]
      rw [hz, add_plain, Int.toNat_natCast] at hx1
      have GP := Aside0.mk gP
      have GB := Aside0.mk gb
      have gf1 := gf (m * 2 + 1)
      have HM := Aside0.mk hm
      replace OBN := Aside0.mk (show ¬ (Value.slice (some ⟨g, 0, none⟩) (m + 1) cc).ownBlock = some w1.heap.size from OBN.out)
      have hm2 : m + 1 ≤ 200 := by rw [← e0]; exact hlen
      have c1 : decide ((0 : Int) < (m : Int) + 1) = true := decide_eq_true (by omega)
      have c3 : (0 : Int) ≤ m := by omega
      have c5 : IntKind.i64.wrap (m : Int) = m := IntWalk.i64_in _ (by omega)
      have c6 : (m : Int) < m + 1 := by omega
      have c4 : ((m : Int)).toNat = m := rfl
      clear hm e0 hz gf gP gb
      by_cases hz1 : z.f1 = x.1
      ·have hzb : (z.f1 == x.1) = true := by simpa using hz1
       have HZ1 := Aside0.mk hz1
       gi_wp2_with fail
       have hSW : W.drew = W.drew := rfl
       refine jh_begin (S := fun w' => w' = W.drew) (c := 13) (by kernel_rfl) (fun _ => trivial) (by kernel_rfl) ?_
       refine jh_take (v := ?_) (by kernel_rfl) 0 hSW rfl (by decide) (by kernel_rfl) (by kernel_rfl) (by kernel_rfl) (fun _ _ _ h => h) (by rfl) ?_ ?_
       rotate_left
       ·intro w' hS'; subst hS'; go_simp; try with_reducible rfl
       simp only [Act.put, List.setIfInBounds_toArray, List.set_cons_zero, List.set_cons_succ]
       refine jh_take (v := ?_) (by kernel_rfl) 1 hSW rfl (by decide) (by kernel_rfl) (by kernel_rfl) (by kernel_rfl) (fun _ _ _ h => h) (by rfl) ?_ ?_
       rotate_left
       ·intro w' hS'; subst hS'; go_simp; try with_reducible rfl
       simp only [Act.put, List.setIfInBounds_toArray, List.set_cons_zero, List.set_cons_succ]
       refine jh_take (v := ?_) (by kernel_rfl) 2 hSW rfl (by decide) (by kernel_rfl) (by kernel_rfl) (by kernel_rfl) (fun _ _ _ h => h) (by rfl) ?_ ?_
       rotate_left
       ·intro w' hS'; subst hS'; go_simp; try with_reducible rfl
       simp only [Act.put, List.setIfInBounds_toArray, List.set_cons_zero, List.set_cons_succ]
       refine jh_take (v := ?_) (by kernel_rfl) 3 hSW rfl (by decide) (by kernel_rfl) (by kernel_rfl) (by kernel_rfl) (fun _ _ _ h => h) (by rfl) ?_ ?_
       rotate_left
       ·intro w' hS'; subst hS'; go_simp; try with_reducible rfl
       simp only [Act.put, List.setIfInBounds_toArray, List.set_cons_zero, List.set_cons_succ]
       refine jh_take (v := ?_) (by kernel_rfl) 4 hSW rfl (by decide) (by kernel_rfl) (by kernel_rfl) (by kernel_rfl) (fun _ _ _ h => h) (by rfl) ?_ ?_
       rotate_left
       ·intro w' hS'; subst hS'; go_simp; try with_reducible rfl
       simp only [Act.put, List.setIfInBounds_toArray, List.set_cons_zero, List.set_cons_succ]
       refine jh_take (v := ?_) (by kernel_rfl) 5 hSW rfl (by decide) (by kernel_rfl) (by kernel_rfl) (by kernel_rfl) (fun _ _ _ h => h) (by rfl) ?_ ?_
       rotate_left
       ·intro w' hS'; subst hS'; go_simp; try with_reducible rfl
       simp only [Act.put, List.setIfInBounds_toArray, List.set_cons_zero, List.set_cons_succ]
       refine jh_take (v := ?_) (by kernel_rfl) 6 hSW rfl (by decide) (by kernel_rfl) (by kernel_rfl) (by kernel_rfl) (fun _ _ _ h => h) (by rfl) ?_ ?_
       rotate_left
       ·intro w' hS'; subst hS'; go_simp; try with_reducible rfl
       simp only [Act.put, List.setIfInBounds_toArray, List.set_cons_zero, List.set_cons_succ]
       refine jh_take (v := ?_) (by kernel_rfl) 7 hSW rfl (by decide) (by kernel_rfl) (by kernel_rfl) (by kernel_rfl) (fun _ _ _ h => h) (by rfl) ?_ ?_
       rotate_left
       ·intro w' hS'; subst hS'; go_simp; try with_reducible rfl
       simp only [Act.put, List.setIfInBounds_toArray, List.set_cons_zero, List.set_cons_succ]
       refine jh_take (v := ?_) (by kernel_rfl) 8 hSW rfl (by decide) (by kernel_rfl) (by kernel_rfl) (by kernel_rfl) (fun _ _ _ h => h) (by rfl) ?_ ?_
       rotate_left
       ·intro w' hS'; subst hS'; go_simp; try with_reducible rfl
       simp only [Act.put, List.setIfInBounds_toArray, List.set_cons_zero, List.set_cons_succ]
       refine jh_take (v := ?_) (by kernel_rfl) 9 hSW rfl (by decide) (by kernel_rfl) (by kernel_rfl) (by kernel_rfl) (fun _ _ _ h => h) (by rfl) ?_ ?_
       rotate_left
       ·intro w' hS'; subst hS'; go_simp; try with_reducible rfl
       simp only [Act.put, List.setIfInBounds_toArray, List.set_cons_zero, List.set_cons_succ]
       refine jh_take (v := ?_) (by kernel_rfl) 10 hSW rfl (by decide) (by kernel_rfl) (by kernel_rfl) (by kernel_rfl) (fun _ _ _ h => h) (by rfl) ?_ ?_
       rotate_left
       ·intro w' hS'; subst hS'; go_simp; try with_reducible rfl
       simp only [Act.put, List.setIfInBounds_toArray, List.set_cons_zero, List.set_cons_succ]
       refine jh_take (v := ?_) (by kernel_rfl) 11 hSW rfl (by decide) (by kernel_rfl) (by kernel_rfl) (by kernel_rfl) (fun _ _ _ h => h) (by rfl) ?_ ?_
       rotate_left
       ·intro w' hS'; subst hS'; go_simp; try with_reducible rfl
       simp only [Act.put, List.setIfInBounds_toArray, List.set_cons_zero, List.set_cons_succ]
       refine jh_take (v := ?_) (by kernel_rfl) 12 hSW rfl (by decide) (by kernel_rfl) (by kernel_rfl) (by kernel_rfl) (fun _ _ _ h => h) (by rfl) ?_ ?_
       rotate_left
       ·intro w' hS'; subst hS'; go_simp; try with_reducible rfl
       simp only [Act.put, List.setIfInBounds_toArray, List.set_cons_zero, List.set_cons_succ]
       refine jh_last (by kernel_rfl) rfl (by rfl) (fun K_ hK => ?_)
       go_simp
       refine hK.out _ _ ?_
       try simp only [Act.put, List.setIfInBounds_toArray, List.set_cons_zero, List.set_cons_succ]
       refine wpAnyIn_done (by kernel_rfl) ?_ _
       clear hK K_
       obtain ⟨Wd, hWd⟩ : ∃ Wd, W.drew = Wd := ⟨_, rfl⟩
       rw [hWd]
       have v0 : Wd.cell? ⟨w1.heap.size, 0, none⟩ = some (.slice (some ⟨g, 0, none⟩) (m + 1) cc) := by rw [← hWd]; exact z0
       have w0_ : Wd.frozen? ⟨w1.heap.size, 0, none⟩ = false := by rw [← hWd]; exact y0
       have x0_ : Wd.cell? ⟨Bx, 0, none⟩ = some (.int .i64 x.1) := by rw [← hWd]; exact x0
       have HD := Aside0.mk (show Wd.heap = W.heap by rw [← hWd]; rfl)
       have R1d := Aside0.mk (show Wd.heap[w1.heap.size]? = some (.cells #[.slice (some ⟨g, 0, none⟩) (m + 1) cc] 42 (0, 0)) by rw [HD.out]; exact R1.out)
       have R2d := Aside0.mk (show Kd.R k79 79 Wd w.heap.size (fun k => k ≠ w1.heap.size) (.slice (some ⟨g, 0, none⟩) (m + 1) cc) (ys ++ [z]) by rw [← hWd]; exact Kd.R_drew R2.out)
       have I4d := Aside0.mk (show Below w.heap.size w Wd by rw [← hWd]; exact below_drew I4.out)
       have OBLd := Aside0.mk (show w1.heap.size < Wd.heap.size by rw [HD.out]; exact OBL.out)
       have x1_ : Wd.cell? ⟨g, m * 2 + 1, none⟩ = some (.int .i64 z.f1) := by rw [← hWd]; exact hx1
       have y1_ : Wd.frozen? ⟨g, m * 2 + 1, none⟩ = false := by rw [← hWd]; exact gf1
       clear hx1 gf1
       clear z0 y0 x0 x1 x2 x3 kx hWd hSW
       gi_wp2
       exact FIN.out _ (.slice (some ⟨g, 0, none⟩) (m + 1) cc) _ (by simp [HD.out]) (fun k_ hk h1 h2 => (Below.heap_setCell Wd ⟨g, m * 2 + 1, none⟩ _ k_ (fun e => h2 (by rw [e]; rfl))).trans (by rw [HD.out])) (blk_far R1d.out (fun e => GP.out e.symm) _) (jp_same_row HM.out R2d.out) (I4d.out.setCell (p := ⟨g, m * 2 + 1, none⟩) GB.out _) (by unfold jp_step; rw [if_pos HEQ.out]; simp [HZ1.out])
      ·have hzb : (z.f1 == x.1) = false := by simpa using hz1
       have HZ1 := Aside0.mk hz1
       clear hz1
       gi_wp2_with fail
       have hSW : W.drew = W.drew := rfl
       refine jh_begin (S := fun w' => w' = W.drew) (c := 13) (by kernel_rfl) (fun _ => trivial) (by kernel_rfl) ?_
       refine jh_take (v := ?_) (by kernel_rfl) 0 hSW rfl (by decide) (by kernel_rfl) (by kernel_rfl) (by kernel_rfl) (fun _ _ _ h => h) (by rfl) ?_ ?_
       rotate_left
       ·intro w' hS'; subst hS'; go_simp; try with_reducible rfl
       simp only [Act.put, List.setIfInBounds_toArray, List.set_cons_zero, List.set_cons_succ]
       refine jh_take (v := ?_) (by kernel_rfl) 1 hSW rfl (by decide) (by kernel_rfl) (by kernel_rfl) (by kernel_rfl) (fun _ _ _ h => h) (by rfl) ?_ ?_
       rotate_left
       ·intro w' hS'; subst hS'; go_simp; try with_reducible rfl
       simp only [Act.put, List.setIfInBounds_toArray, List.set_cons_zero, List.set_cons_succ]
       refine jh_take (v := ?_) (by kernel_rfl) 2 hSW rfl (by decide) (by kernel_rfl) (by kernel_rfl) (by kernel_rfl) (fun _ _ _ h => h) (by rfl) ?_ ?_
       rotate_left
       ·intro w' hS'; subst hS'; go_simp; try with_reducible rfl
       simp only [Act.put, List.setIfInBounds_toArray, List.set_cons_zero, List.set_cons_succ]
       refine jh_take (v := ?_) (by kernel_rfl) 3 hSW rfl (by decide) (by kernel_rfl) (by kernel_rfl) (by kernel_rfl) (fun _ _ _ h => h) (by rfl) ?_ ?_
       rotate_left
       ·intro w' hS'; subst hS'; go_simp; try with_reducible rfl
       simp only [Act.put, List.setIfInBounds_toArray, List.set_cons_zero, List.set_cons_succ]
       refine jh_take (v := ?_) (by kernel_rfl) 4 hSW rfl (by decide) (by kernel_rfl) (by kernel_rfl) (by kernel_rfl) (fun _ _ _ h => h) (by rfl) ?_ ?_
       rotate_left
       ·intro w' hS'; subst hS'; go_simp; try with_reducible rfl
       simp only [Act.put, List.setIfInBounds_toArray, List.set_cons_zero, List.set_cons_succ]
       refine jh_take (v := ?_) (by kernel_rfl) 5 hSW rfl (by decide) (by kernel_rfl) (by kernel_rfl) (by kernel_rfl) (fun _ _ _ h => h) (by rfl) ?_ ?_
       rotate_left
       ·intro w' hS'; subst hS'; go_simp; try with_reducible rfl
       simp only [Act.put, List.setIfInBounds_toArray, List.set_cons_zero, List.set_cons_succ]
       refine jh_take (v := ?_) (by kernel_rfl) 6 hSW rfl (by decide) (by kernel_rfl) (by kernel_rfl) (by kernel_rfl) (fun _ _ _ h => h) (by rfl) ?_ ?_
       rotate_left
       ·intro w' hS'; subst hS'; go_simp; try with_reducible rfl
       simp only [Act.put, List.setIfInBounds_toArray, List.set_cons_zero, List.set_cons_succ]
       refine jh_take (v := ?_) (by kernel_rfl) 7 hSW rfl (by decide) (by kernel_rfl) (by kernel_rfl) (by kernel_rfl) (fun _ _ _ h => h) (by rfl) ?_ ?_
       rotate_left
       ·intro w' hS'; subst hS'; go_simp; try with_reducible rfl
       simp only [Act.put, List.setIfInBounds_toArray, List.set_cons_zero, List.set_cons_succ]
       refine jh_take (v := ?_) (by kernel_rfl) 8 hSW rfl (by decide) (by kernel_rfl) (by kernel_rfl) (by kernel_rfl) (fun _ _ _ h => h) (by rfl) ?_ ?_
       rotate_left
       ·intro w' hS'; subst hS'; go_simp; try with_reducible rfl
       simp only [Act.put, List.setIfInBounds_toArray, List.set_cons_zero, List.set_cons_succ]
       refine jh_take (v := ?_) (by kernel_rfl) 9 hSW rfl (by decide) (by kernel_rfl) (by kernel_rfl) (by kernel_rfl) (fun _ _ _ h => h) (by rfl) ?_ ?_
       rotate_left
       ·intro w' hS'; subst hS'; go_simp; try with_reducible rfl
       simp only [Act.put, List.setIfInBounds_toArray, List.set_cons_zero, List.set_cons_succ]
       refine jh_take (v := ?_) (by kernel_rfl) 10 hSW rfl (by decide) (by kernel_rfl) (by kernel_rfl) (by kernel_rfl) (fun _ _ _ h => h) (by rfl) ?_ ?_
       rotate_left
       ·intro w' hS'; subst hS'; go_simp; try with_reducible rfl
       simp only [Act.put, List.setIfInBounds_toArray, List.set_cons_zero, List.set_cons_succ]
       refine jh_take (v := ?_) (by kernel_rfl) 11 hSW rfl (by decide) (by kernel_rfl) (by kernel_rfl) (by kernel_rfl) (fun _ _ _ h => h) (by rfl) ?_ ?_
       rotate_left
       ·intro w' hS'; subst hS'; go_simp; try with_reducible rfl
       simp only [Act.put, List.setIfInBounds_toArray, List.set_cons_zero, List.set_cons_succ]
       refine jh_take (v := ?_) (by kernel_rfl) 12 hSW rfl (by decide) (by kernel_rfl) (by kernel_rfl) (by kernel_rfl) (fun _ _ _ h => h) (by rfl) ?_ ?_
       rotate_left
       ·intro w' hS'; subst hS'; go_simp; try with_reducible rfl
       simp only [Act.put, List.setIfInBounds_toArray, List.set_cons_zero, List.set_cons_succ]
       refine jh_last (by kernel_rfl) rfl (by rfl) (fun K_ hK => ?_)
       go_simp
       refine hK.out _ _ ?_
       try simp only [Act.put, List.setIfInBounds_toArray, List.set_cons_zero, List.set_cons_succ]
       refine wpAnyIn_done (by kernel_rfl) ?_ _
       clear hK K_
       obtain ⟨Wd, hWd⟩ : ∃ Wd, W.drew = Wd := ⟨_, rfl⟩
       rw [hWd]
       have v0 : Wd.cell? ⟨w1.heap.size, 0, none⟩ = some (.slice (some ⟨g, 0, none⟩) (m + 1) cc) := by rw [← hWd]; exact z0
       have w0_ : Wd.frozen? ⟨w1.heap.size, 0, none⟩ = false := by rw [← hWd]; exact y0
       have x0_ : Wd.cell? ⟨Bx, 0, none⟩ = some (.int .i64 x.1) := by rw [← hWd]; exact x0
       have HD := Aside0.mk (show Wd.heap = W.heap by rw [← hWd]; rfl)
       have R1d := Aside0.mk (show Wd.heap[w1.heap.size]? = some (.cells #[.slice (some ⟨g, 0, none⟩) (m + 1) cc] 42 (0, 0)) by rw [HD.out]; exact R1.out)
       have R2d := Aside0.mk (show Kd.R k79 79 Wd w.heap.size (fun k => k ≠ w1.heap.size) (.slice (some ⟨g, 0, none⟩) (m + 1) cc) (ys ++ [z]) by rw [← hWd]; exact Kd.R_drew R2.out)
       have I4d := Aside0.mk (show Below w.heap.size w Wd by rw [← hWd]; exact below_drew I4.out)
       have OBLd := Aside0.mk (show w1.heap.size < Wd.heap.size by rw [HD.out]; exact OBL.out)
       have x1_ : Wd.cell? ⟨g, m * 2 + 1, none⟩ = some (.int .i64 z.f1) := by rw [← hWd]; exact hx1
       have y1_ : Wd.frozen? ⟨g, m * 2 + 1, none⟩ = false := by rw [← hWd]; exact gf1
       clear hx1 gf1
       clear z0 y0 x0 x1 x2 x3 kx hWd hSW
       gi_wp2_with (gi_at_builtin; refine jd_append_in k79 (w0 := w) w.heap.size rfl (.tmp 29) (.tmp 36) 42 79 (.agg #[(.int .i64 0), (.int .i64 0)]) 16 rfl Tryd.underlying42 info79 rfl (by decide) (by omega) (.slice (some ⟨g, 0, none⟩) (m + 1) cc) (ys ++ [z]) (⟨x.1, wrap64 (x.1 + 1)⟩ : S79) [.int .i64 x.1, .int .i64 (wrap64 (x.1 + 1))] (fun k_ => k_ ≠ w1.heap.size) (fun _ => False) rfl ?aX ?aP (fun _ hk => hk.elim) ?aF ?aO ?aB ?aS ?aL ?_; (case aX => rfl); (case aP => exact k79_mkM _ _ _ (⟨x.1, wrap64 (x.1 + 1)⟩ : S79)); (case aF => exact fun k_ hk e => by have h5 := OBLd.out; subst e; exact absurd (Nat.lt_of_lt_of_le h5 hk) (Nat.lt_irrefl _)); (case aO => exact R2d.out); (case aB => exact I4d.out); (case aS => exact I4d.out.size); (case aL => (have h7 := HLEN.out; simp at h7 ⊢; omega)); intro v1 w3 ho hb hg; obtain ⟨A1, cc1, rfl⟩ := Kd.R_slice ho; have HO3 := Aside0.mk ho; have HB3 := Aside0.mk hb; have HG3 := Aside0.mk hg; have b3 : w3.heap[w1.heap.size]? = some (.cells #[.slice (some ⟨g, 0, none⟩) (m + 1) cc] 42 (0, 0)) := (hg.block _ OBLd.out (fun e => OBN.out e.symm)).trans R1d.out; have m0 := (blk_cell b3 0).trans rfl; have m1 := blk_frozen b3 0; have B3 := Aside0.mk b3; clear ho hb hg b3)
       exact FIN.out _ _ _ (by have := HG3.out.size; rw [HD.out] at this; simpa using this) (fun k_ hk h1 h2 => (Below.heap_setCell w3 _ _ k_ h1).trans ((HG3.out.block k_ (by rw [HD.out]; exact hk) h2).trans (by rw [HD.out]))) (by simpa using blk_set B3.out 0 (.slice A1 _ cc1)) (Kd.R_far HO3.out (fun k_ hk => hk) _) (below_set HB3.out HOB.out) (by unfold jp_step; rw [if_pos HEQ.out]; simp [HZ1.out])
    ·gi_wp2_with fail
     exact FIN.out W _ out (Nat.le_refl _) (fun _ _ _ _ => rfl) I1.out I2.out I4.out (skipE (fun h => d2 h.2.2))
   ·gi_wp2_with fail
    exact FIN.out W _ out (Nat.le_refl _) (fun _ _ _ _ => rfl) I1.out I2.out I4.out (skipE (fun h => d1 h.2.1))
  ·have d0b : (x.2.1 != a4) = true := by simpa using d0
   gi_wp2_with fail
   exact FIN.out W _ out (Nat.le_refl _) (fun _ _ _ _ => rfl) I1.out I2.out I4.out (skipE (fun h => d0 h.1))
 case done =>
  rintro D ys W hD rfl ⟨i0, _⟩ hK
  have I0 := Aside0.mk i0
  obtain ⟨u, i1, i2, i3, i4, i5⟩ := i0
  obtain ⟨A, cc, rfl⟩ := Kd.R_slice i2
  have z0 := (blk_cell i1 0).trans rfl
  have HKD := Aside0.mk hK
  clear i1 i2 i3 i4 hK
  gi_wp2
  refine ⟨by simp, .inl ⟨_, _, rfl, run_takeDeferred HKD.out, ?_⟩⟩
  obtain ⟨u, j1, j2, j3, j4, j5⟩ := I0.out.own (grownBy_putObj' W D (.deferred none)) (fun r e => by cases e; exact ⟨by have := HW0.out.size; omega, _, HKD.out, rfl⟩)
  have e1 : u = .slice A (jp_run a4 (jd_F l0 (jd_K l0 a1) a1 l2 l3 l2.length)).length cc := by
   obtain ⟨u', k1, _⟩ := I0.out
   have h2 := jd_own (grownBy_putObj' W D (.deferred none)) k1 (fun r e => by cases e; have := hw5.1; omega)
   rw [j1] at h2
   have h3 : u = u' := by simpa using h2
   have h4 := (blk_cell k1 0).symm.trans z0
   simp at h4
   rw [h3, h4]
  subst e1
  exact ⟨.tuple #[.slice A (jp_run a4 (jd_F l0 (jd_K l0 a1) a1 l2 l3 l2.length)).length cc, .int .i64 0], by simp [results, Tryd.f19, go_sem], _, rfl, Kd.R_mono j2 (fun _ _ => trivial), j4⟩
 case stop =>
  intro D c pre W _ _ h _
  exact h.elim
set_option maxRecDepth 100000 in
set_option maxHeartbeats 2000000 in
theorem jp_proven_no (k : Nat) (A0 : Option Addr) (c0 : Nat) (l0 : List S74) (a1 : Int) (A2 : Option Addr) (c2 : Nat) (l2 : List S54) (A3 : Option Addr) (c3 : Nat) (l3 : List S54) (a4 : Int) (w : World) (hr0 : Kd.C k74 w A0 l0.length l0) (hc0 : l0.length ≤ c0) (hr2 : Kd.C k54 w A2 l2.length l2) (hc2 : l2.length ≤ c2) (hr3 : Kd.C k54 w A3 l3.length l3) (hc3 : l3.length ≤ c3) (hv : judge_evidence_valid.f k l0 a1 l2 l3 = some false) :
  Calls Tryd.prog 19 #[.slice A0 l0.length c0, .int .i64 a1, .slice A2 l2.length c2, .slice A3 l3.length c3, .int .i64 a4] w fun e w' => e = .returned (.tuple #[.slice none 0 0, .int .i64 380]) ∧ Below w.heap.size w w' := by
 have HR0 := Aside0.mk hr0
 have HR2 := Aside0.mk hr2
 have HR3 := Aside0.mk hr3
 have HC0 := Aside0.mk hc0
 have HC2 := Aside0.mk hc2
 have HC3 := Aside0.mk hc3
 have HV := Aside0.mk hv
 clear hr0 hr2 hr3 hc0 hc2 hc3 hv
 go_enter Tryd.func19, Tryd.ntmps19
 go_wp2_with fail
 obtain ⟨Wa, hWa⟩ : ∃ Wa, (w.alloc (.cells #[.int .i64 a4] 3)).alloc (.cells #[.slice A0 l0.length c0, .int .i64 a1, .slice A2 l2.length c2, .slice A3 l3.length c3] 103) = Wa := ⟨_, rfl⟩
 obtain ⟨p1, p3, p4, p5⟩ := jd_b2 _ _ _ _ _ _ hWa
 rw [hWa]
 clear hWa
 refine (judge_evidence_valid.calls k _ _ l0 a1 _ _ l2 _ _ l3 false _ (Kd.C_below HR0.out p4) HC0.out (Kd.C_below HR2.out p4) HC2.out (Kd.C_below HR3.out p4) HC3.out HV.out).mono ?_
 rintro e w1 ⟨rfl, hb1⟩
 have HB1 := Aside0.mk (below_step p4 hb1)
 clear p1 p3 p4 p5 hb1
 go_wp2
 exact bodyPost_ret (v := .tuple #[.slice none 0 0, .int .i64 380]) (by simp [results, Tryd.f19, go_sem]) rfl ⟨rfl, HB1.out⟩
theorem judge_Proven.calls (k : Nat) (A0 : Option Addr) (c0 : Nat) (l0 : List S74) (a1 : Int) (A2 : Option Addr) (c2 : Nat) (l2 : List S54) (A3 : Option Addr) (c3 : Nat) (l3 : List S54) (a4 : Int) (r1 : List S79) (r2 : Int) (w : World) (hG : Aside0 (GG w)) (hr0 : Kd.C k74 w A0 l0.length l0) (hc0 : l0.length ≤ c0) (hr2 : Kd.C k54 w A2 l2.length l2) (hc2 : l2.length ≤ c2) (hr3 : Kd.C k54 w A3 l3.length l3) (hc3 : l3.length ≤ c3) (h : judge_Proven.f k l0 a1 l2 l3 a4 = some (r1, r2)) :
  Calls Tryd.prog 19 #[.slice A0 l0.length c0, .int .i64 a1, .slice A2 l2.length c2, .slice A3 l3.length c3, .int .i64 a4] w fun e w' => ∃ v0_ : Value, e = .returned (.tuple #[v0_, .int .i64 r2]) ∧ Kd.R k79 79 w' w.heap.size (fun _ => True) v0_ r1 ∧ Below w.heap.size w w' := by
 unfold judge_Proven.f at h
 obtain ⟨v, hv, h⟩ := Option.bind_eq_some_iff.1 h
 cases v with
 | true =>
  rw [if_pos rfl] at h
  have h := Option.some.inj h
  simp only [Prod.mk.injEq] at h
  obtain ⟨rfl, rfl⟩ := h
  exact callsIn_wide.1 (jp_proven_in 6 (Nat.le_refl _) k A0 c0 l0 a1 A2 c2 l2 A3 c3 l3 a4 w hG.out hr0 hc0 hr2 hc2 hr3 hc3 hv)
 | false =>
  rw [if_neg (by decide)] at h
  have h := Option.some.inj h
  simp only [Prod.mk.injEq] at h
  obtain ⟨rfl, rfl⟩ := h
  refine (jp_proven_no k A0 c0 l0 a1 A2 c2 l2 A3 c3 l3 a4 w hr0 hc0 hr2 hc2 hr3 hc3 hv).mono ?_
  rintro e w' ⟨rfl, hb⟩
  exact ⟨_, rfl, Kd.R_nil _ _ _ _ _, hb⟩

end Go.Proofs.YtglcdgalimgkeaaDoor.PJB
