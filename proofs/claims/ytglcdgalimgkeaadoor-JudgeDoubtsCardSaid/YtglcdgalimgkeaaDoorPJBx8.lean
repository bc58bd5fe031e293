-- PRINTED by print.py (a twelfth state) out of the translation. Not trusted: Lean checks it.
import Derived.Test.YtglcdgalimgkeaaDoorPJBx0
import Derived.Test.YtglcdgalimgkeaaDoorPJBx7
import Derived.RangeFuncNested
import Derived.RangeFuncBound
import Derived.RangeFuncCalls
import Derived.RangeFuncLeaves
import Derived.RangeFuncBox
import Derived.Shelf.Abstract
import Derived.Shelf.RegionOpen
import Derived.OwnWalkIn
import Derived.TacticsInMore
import Derived.LoopNIn
import Derived.LoopIn
import Derived.OneCell
import Derived.BigQuiet
import Derived.Deep.RegionWith
import Derived.Deep.RegionHeld3
import Derived.IntWalk
namespace Go.Proofs.YtglcdgalimgkeaaDoor.PJB
open Go.RowKit Go.Proofs.YtglcdgalimgkeaaDoorW.PrintWords Go.Proofs.YtglcdgalimgkeaaDoorW.PrintLast Go.Proofs.YtglcdgalimgkeaaDoorW.PrintMore
attribute [local go_sem] max2_int min2_int max_two min_two max_three min_three max_four min_four   -- for this text's walks alone
set_option linter.unusedVariables false
set_option linter.unusedSimpArgs false

attribute [local go_sem] Oper.semAt_some
open Go.Shelf
-- given by hand: tl2

def tl_clip1 (s : S74) (lo hi : Int) : S74 := ⟨if s.f0 < lo then lo else s.f0, if hi < s.f1 then hi else s.f1, s.f2⟩
def tl_clip (l : List S74) (lo hi : Int) : List S74 := (l.map (fun s => tl_clip1 s lo hi)).filter (fun s => decide (s.f0 < s.f1))
theorem tl_cell_heap {w w' : World} {b o : Nat} (h : w'.heap[b]? = w.heap[b]?) : w'.cell? ⟨b, o, none⟩ = w.cell? ⟨b, o, none⟩ := by simp [World.cell?, h]
theorem tl_clip_len (l : List S74) (lo hi : Int) : (tl_clip l lo hi).length ≤ l.length := by
 unfold tl_clip
 exact Nat.le_trans (List.length_filter_le _ _) (by simp)
theorem tl_clip_snoc {xs : List S74} {k : Nat} {lo hi p q : Int} {x : S74} (hx : rd_T74 xs (k : Int) = x) (hc : tl_clip1 x lo hi = ⟨p, q, x.f2⟩) (hk : k < xs.length) : tl_clip (xs.take (k + 1)) lo hi = tl_clip (xs.take k) lo hi ++ (if p < q then [⟨p, q, x.f2⟩] else []) := by
 have e : xs[k] = x := by rw [← hx]; simp [rd_T74, hk]
 rw [List.take_succ_eq_append_getElem hk, e]
 simp [tl_clip, hc, List.filter_cons]
theorem tl_clip_yes {xs : List S74} {k : Nat} {lo hi p q : Int} {x : S74} (hx : rd_T74 xs (k : Int) = x) (hc : tl_clip1 x lo hi = ⟨p, q, x.f2⟩) (h : p < q) (hk : k < xs.length) : tl_clip (xs.take (k + 1)) lo hi = tl_clip (xs.take k) lo hi ++ [⟨p, q, x.f2⟩] := by
 rw [tl_clip_snoc hx hc hk, if_pos h]
theorem tl_clip_no {xs : List S74} {k : Nat} {lo hi p q : Int} {x : S74} (hx : rd_T74 xs (k : Int) = x) (hc : tl_clip1 x lo hi = ⟨p, q, x.f2⟩) (h : ¬ p < q) (hk : k < xs.length) : tl_clip (xs.take (k + 1)) lo hi = tl_clip (xs.take k) lo hi := by
 rw [tl_clip_snoc hx hc hk, if_neg h, List.append_nil]
theorem tl_clip_pre {xs : List S74} {k : Nat} {lo hi p q : Int} {x : S74} (hx : rd_T74 xs (k : Int) = x) (hc : tl_clip1 x lo hi = ⟨p, q, x.f2⟩) (h : p < q) (hk : k < xs.length) : tl_clip (xs.take k) lo hi ++ [⟨p, q, x.f2⟩] <+: tl_clip xs lo hi := by
 rw [← tl_clip_yes hx hc h hk]
 refine ⟨tl_clip (xs.drop (k + 1)) lo hi, ?_⟩
 rw [show tl_clip (xs.take (k + 1)) lo hi ++ tl_clip (xs.drop (k + 1)) lo hi = tl_clip (xs.take (k + 1) ++ xs.drop (k + 1)) lo hi by unfold tl_clip; rw [← List.filter_append, ← List.map_append], List.take_append_drop]
set_option maxRecDepth 100000 in
set_option maxHeartbeats 2000000 in
theorem tl_within1_in (n : Nat) (hn : 1 ≤ n) (l B0 B1 B2 : Nat) (S : Nat → Prop) (A : Option Addr) (cap : Nat) (xs : List S74) (lo hi : Int) (J Jx : List S74 → World → Prop)
  (hJ : ∀ s W W', J s W → Below W.heap.size W W' → J s W')
  (hY : ∀ pre x W, J pre W → pre.length < xs.length → YieldAt Fence.wide (n - 1) Tryd.prog l #[.agg #[.int .i64 x.f0, .int .i64 x.f1, .int .i64 x.f2]] W fun e W' =>
   (e = .returned (.bool true) ∧ J (pre ++ [x]) W' ∧ Kept W W' S) ∨ (e = .returned (.bool false) ∧ Jx (pre ++ [x]) W'))
  (W : World) (hb0 : B0 < W.heap.size) (hb1 : B1 < W.heap.size) (hb2 : B2 < W.heap.size) (hs0 : ¬ S B0) (hs1 : ¬ S B1) (hs2 : ¬ S B2) (hc0 : W.cell? ⟨B0, 0, none⟩ = some (.slice A xs.length cap)) (hc1 : W.cell? ⟨B1, 0, none⟩ = some (.int .i64 lo)) (hc2 : W.cell? ⟨B2, 0, none⟩ = some (.int .i64 hi))
  (hC : ∀ W', Kept W W' S → Kd.C k74 W' A xs.length xs) (hlen : xs.length ≤ 100000) (h0 : J [] W) :
  CallsIn Fence.wide n Tryd.prog 90 #[.func (.yield l) #[] #[], .pointer (some ⟨B0, 0, none⟩), .pointer (some ⟨B1, 0, none⟩), .pointer (some ⟨B2, 0, none⟩)] W fun e W' => (∃ v, e = .returned v) ∧
   ((∃ ys, ys = tl_clip xs lo hi ∧ J ys W') ∨ (∃ pre, pre <+: tl_clip xs lo hi ∧ Jx pre W')) := by
 have HC := Aside0.mk hC
 have HJ := Aside0.mk hJ
 have HY := Aside0.mk hY
 clear hC hJ hY
 refine callsIn_of_wp Tryd.func90 rfl trivial ?_ rfl
 simp only [Tryd.ntmps90, List.size_toArray, List.length_cons, List.length_nil, Nat.reduceAdd, Nat.reduceSub, Array.replicate_succ, Array.replicate_zero, List.push_toArray, List.append_toArray, List.nil_append, List.cons_append]
 gi_wp2
 gi_loopw [9] (fun i wr => ∃ k : Nat, k ≤ xs.length ∧ i = .int .i64 k ∧ J (tl_clip (xs.take k) lo hi) wr ∧ Aside0 (Kept W wr S))
  (fun i _ => xs.length - (intOf i).toNat)
 case atStart => exact ⟨0, Nat.zero_le _, rfl, h0, ⟨Kept.refl _ _⟩⟩
 case round =>
  obtain ⟨k, hk, rfl, hJs, HB⟩ := hrel
  by_cases hlt : k < xs.length
  ·have d0 := (tl_cell_heap (HB.out.2 B0 hb0 hs0)).trans hc0
   have d1 := (tl_cell_heap (HB.out.2 B1 hb1 hs1)).trans hc1
   have d2 := (tl_cell_heap (HB.out.2 B2 hb2 hs2)).trans hc2
   obtain ⟨ad, rfl, hx0, hx1, hx2⟩ := at_T74 (HC.out wr HB.out) (k : Int) (by omega) (by omega)
   have hk1 : (k : Int) < xs.length := by omega
   have hk2 : (0 : Int) ≤ k := by omega
   obtain ⟨x, hx⟩ : ∃ x, rd_T74 xs ↑k = x := ⟨_, rfl⟩
   rw [hx, Int.toNat_natCast] at hx0 hx1 hx2
   have HX := Aside0.mk hx
   clear hx
   gi_wp2
   obtain ⟨W1, hW1⟩ : ∃ W1, wr.alloc (Obj.cells #[Value.int IntKind.i64 x.f0, Value.int IntKind.i64 x.f1, Value.int IntKind.i64 x.f2] 74) = W1 := ⟨_, rfl⟩
   have hbb : W1.heap[wr.heap.size]? = some (.cells #[Value.int IntKind.i64 x.f0, Value.int IntKind.i64 x.f1, Value.int IntKind.i64 x.f2] 74 (0, 0)) := by rw [← hW1]; exact World.alloc_heap_new _ _
   have hbw : Below wr.heap.size wr W1 := by rw [← hW1]; exact below_alloc (Below.refl _ _) _
   have z0 := (blk_cell hbb 0).trans rfl
   have z1 := (blk_cell hbb 1).trans rfl
   have y0 := blk_frozen hbb 0
   have y1 := blk_frozen hbb 1
   have d11 := pw_cell_below hbw d1
   have d21 := pw_cell_below hbw d2
   have q1 : ∀ o v, (W1.setCell ⟨wr.heap.size, o, none⟩ v).cell? ⟨B1, 0, none⟩ = some (.int .i64 lo) := fun o v => (cell_far (show B1 ≠ wr.heap.size by have := HB.out.1; omega) v).trans d11
   have q2 : ∀ o v, (W1.setCell ⟨wr.heap.size, o, none⟩ v).cell? ⟨B2, 0, none⟩ = some (.int .i64 hi) := fun o v => (cell_far (show B2 ≠ wr.heap.size by have := HB.out.1; omega) v).trans d21
   have HBB := Aside0.mk hbb
   have HBW := Aside0.mk hbw
   rw [hW1]
   clear hW1 hbb hbw d0 d1 d2 hx0 hx1 hx2
   gi_region
   obtain ⟨p, hp⟩ : ∃ p, (if x.f0 < lo then lo else x.f0) = p := ⟨_, rfl⟩
   obtain ⟨q, hq⟩ : ∃ q, (if hi < x.f1 then hi else x.f1) = q := ⟨_, rfl⟩
   rw [hp, hq]
   have hcl : tl_clip1 x lo hi = ⟨p, q, x.f2⟩ := by simp [tl_clip1, hp, hq]
   obtain ⟨W2, hW2⟩ : ∃ W2, ((W1.setCell ⟨wr.heap.size, 0, none⟩ (Value.int IntKind.i64 p)).setCell ⟨wr.heap.size, 1, none⟩ (Value.int IntKind.i64 q)).drew = W2 := ⟨_, rfl⟩
   have hb2' : W2.heap[wr.heap.size]? = some (.cells #[Value.int IntKind.i64 p, Value.int IntKind.i64 q, Value.int IntKind.i64 x.f2] 74 (0, 0)) := by
    rw [← hW2]
    have h1 := blk_set (blk_set HBB.out 0 (Value.int IntKind.i64 p)) 1 (Value.int IntKind.i64 q)
    exact h1
   have hbw2 : Below wr.heap.size wr W2 := by rw [← hW2]; exact below_drew (((HBW.out).setCell (Nat.le_refl _) _).setCell (Nat.le_refl _) _)
   rw [hW2]
   have e0 := (blk_cell hb2' 0).trans rfl
   have e1 := (blk_cell hb2' 1).trans rfl
   have e2 := (blk_cell hb2' 2).trans rfl
   have HBW2 := Aside0.mk hbw2
   have HCL := Aside0.mk hcl
   have hJ2 := HJ.out _ _ _ hJs hbw2
   clear hW2 hb2' hbw2 hcl hp hq q1 q2 z0 z1 y0 y1 d11 d21
   by_cases hpq : p < q
   ·obtain ⟨fn, tmps, assign, body, hy, hR⟩ := HY.out _ ⟨p, q, x.f2⟩ W2 hJ2 (Nat.lt_of_le_of_lt (tl_clip_len _ _ _) (by simp; omega))
    gi_wp2
    refine hR.mono ?_
    rintro e W3 (⟨rfl, hJ3, hk3⟩ | ⟨rfl, hJx3⟩)
    ·gi_wp2
     go_roundw
     case rel => exact ⟨k + 1, by omega, by go_num, by rw [tl_clip_yes HX.out HCL.out hpq hlt]; exact hJ3, ⟨(HB.out.below HBW2.out).then_ hk3 (fun k hk => .inl hk)⟩⟩
     case measure => simp [intOf]; omega
    ·gi_wp2
     refine bodyPost_ret (results_none rfl _ _ _) rfl ?_
     exact ⟨⟨_, rfl⟩, .inr ⟨_, tl_clip_pre HX.out HCL.out hpq hlt, hJx3⟩⟩
   ·gi_wp2
    refine ⟨fun _ h => (by cases h), ?_⟩
    gi_wp2
    go_roundw
    case rel => exact ⟨k + 1, by omega, by go_num, by rw [tl_clip_no HX.out HCL.out (Int.not_lt.2 hpq) hlt]; exact hJ2, ⟨HB.out.below HBW2.out⟩⟩
    case measure => simp [intOf]; omega
  ·obtain rfl : k = xs.length := by omega
   rw [List.take_length] at hJs
   have hJs' := Aside0.mk hJs
   clear hJs
   gi_wp2
   go_end0
   exact ⟨⟨_, rfl⟩, .inl ⟨_, rfl, hJs'.out⟩⟩

set_option maxRecDepth 100000 in
theorem tl_within_any (A : Option Addr) (len cap : Nat) (lo hi : Int) (w : World) :
  Calls Tryd.prog 67 #[.slice A len cap, .int .i64 lo, .int .i64 hi] w fun e w' => e = .returned (.func (.func 90) #[] #[.pointer (some ⟨w.heap.size, 0, none⟩), .pointer (some ⟨w.heap.size + 1, 0, none⟩), .pointer (some ⟨w.heap.size + 2, 0, none⟩)]) ∧
   w' = ((w.alloc (.cells #[.slice A len cap] 28)).alloc (.cells #[.int .i64 lo] 3)).alloc (.cells #[.int .i64 hi] 3) := by
 go_enter Tryd.func67, Tryd.ntmps67
 go_wp2
 go_ret
 exact ⟨rfl, rfl⟩



def tl_SS (base B0 B1 B2 : Nat) (k : Nat) : Prop := base ≤ k ∧ k ≠ B0 ∧ k ≠ B1 ∧ k ≠ B2
theorem tl_within_stops (n : Nat) (hn : 1 ≤ n) (B0 B1 B2 : Nat) (A : Option Addr) (cap : Nat) (xs : List S74) (lo hi : Int) (w0 w : World) (hb0 : B0 < w.heap.size) (hb1 : B1 < w.heap.size) (hb2 : B2 < w.heap.size)
  (hc0 : w.cell? ⟨B0, 0, none⟩ = some (.slice A xs.length cap)) (hc1 : w.cell? ⟨B1, 0, none⟩ = some (.int .i64 lo)) (hc2 : w.cell? ⟨B2, 0, none⟩ = some (.int .i64 hi)) (hB : Below w0.heap.size w0 w) (hC : Kd.C k74 w0 A xs.length xs) (hlen : xs.length ≤ 100000) :
  SeqStopsK Fence.wide n Tryd.prog 90 #[.pointer (some ⟨B0, 0, none⟩), .pointer (some ⟨B1, 0, none⟩), .pointer (some ⟨B2, 0, none⟩)] (fun x : S74 => #[Value.agg #[.int .i64 x.f0, .int .i64 x.f1, .int .i64 x.f2]]) (fun W W' => Kept W W' (tl_SS w0.heap.size B0 B1 B2)) (fun ys => ys = tl_clip xs lo hi) (fun pre => pre <+: tl_clip xs lo hi) xs.length w := fun l J Jx W hW hJ _ hY h0 =>
 tl_within1_in n hn l B0 B1 B2 (tl_SS w0.heap.size B0 B1 B2) A cap xs lo hi J Jx (fun s W1 W2 hs hb => hJ s W1 W2 none hs (grown_of_below hb none) (by simp)) hY W (Nat.lt_of_lt_of_le hb0 hW.size) (Nat.lt_of_lt_of_le hb1 hW.size) (Nat.lt_of_lt_of_le hb2 hW.size)
  (fun h => h.2.1 rfl) (fun h => h.2.2.1 rfl) (fun h => h.2.2.2 rfl) (pw_cell_below hW hc0) (pw_cell_below hW hc1) (pw_cell_below hW hc2)
  (Kd.C_kept_came k74_heap hC (below_then hB hB.size hW) (fun k hk => hk.1)) hlen h0
def tl_addAll (zs ys : List S74) : List S74 := ys.foldl tl_addS zs
theorem tl_addAll_snoc (zs ys : List S74) (x : S74) : tl_addAll zs (ys ++ [x]) = tl_addS (tl_addAll zs ys) x := by simp [tl_addAll]
theorem tl_addS_len (xs : List S74) (s : S74) : (tl_addS xs s).length ≤ xs.length + 1 := by
 unfold tl_addS
 split
 ·simp
 ·split <;> simp <;> omega
theorem tl_addAll_len (ys : List S74) : ∀ zs : List S74, (tl_addAll zs ys).length ≤ zs.length + ys.length := by
 induction ys with
 | nil => intro zs; simp [tl_addAll]
 | cons y ys ih =>
  intro zs
  have h1 := ih (tl_addS zs y)
  have h2 := tl_addS_len zs y
  simp only [tl_addAll, List.foldl_cons, List.length_cons] at h1 ⊢
  omega
theorem tl_BS.own {w0 : World} {B : Nat} {X Y : World} {row : Option Nat} {xs : List S74} (h : tl_BS w0 B X xs) (hg : X.grownBy Y row) (hr : ∀ r, row = some r → w0.heap.size ≤ r ∧ ∃ o : Obj, X.heap[r]? = some o ∧ o.isCells = false) : tl_BS w0 B Y xs := by
 obtain ⟨u, hb, ho, hB, hBB⟩ := h
 have hne : ∀ k, (∃ cells q, X.heap[k]? = some (.cells cells q (0, 0))) → some k ≠ row := by
  rintro k ⟨cells, q, hk⟩ e
  obtain ⟨_, o, h1, h2⟩ := hr k e.symm
  rw [hk] at h1
  cases h1
  cases h2
 refine ⟨u, (hg.block B (Array.getElem?_eq_some_iff.1 hb).1 (hne B ⟨_, _, hb⟩)).trans hb, ?_, hB.grown hg hB.size (fun r e => (hr r e).1), hBB⟩
 exact Kd.R_mono (Kd.R_grown (Kd.R_bound ho) hg (fun k hk => by obtain ⟨_, _, _, q, _, cells, hc⟩ := hk; exact hne k ⟨cells, q, hc⟩)) (fun k hk => hk.1)
theorem tl_BS.below {w0 : World} {B : Nat} {X Y : World} {xs : List S74} (h : tl_BS w0 B X xs) (hb : Below X.heap.size X Y) : tl_BS w0 B Y xs := h.own (grown_of_below hb none) (by simp)

set_option maxRecDepth 100000 in
set_option maxHeartbeats 2000000 in
theorem tl_each_in (n : Nat) (hn : 6 ≤ n) (B B0 B1 B2 : Nat) (A : Option Addr) (cap : Nat) (xs zs : List S74) (lo hi : Int) (w0 w : World) (hS : tl_BS w0 B w zs) (hne : B ≠ B0 ∧ B ≠ B1 ∧ B ≠ B2) (hb0 : B0 < w.heap.size) (hb1 : B1 < w.heap.size) (hb2 : B2 < w.heap.size)
  (hc0 : w.cell? ⟨B0, 0, none⟩ = some (.slice A xs.length cap)) (hc1 : w.cell? ⟨B1, 0, none⟩ = some (.int .i64 lo)) (hc2 : w.cell? ⟨B2, 0, none⟩ = some (.int .i64 hi)) (hT : ∀ k, k = B0 ∨ k = B1 ∨ k = B2 → ∀ cells, w.heap[k]? ≠ some (.cells cells 74 (0, 0))) (hC : Kd.C k74 w0 A xs.length xs) (hlen : xs.length + zs.length < 100000) :
  CallsIn Fence.wide n Tryd.prog 70 #[.func (.func 90) #[] #[.pointer (some ⟨B0, 0, none⟩), .pointer (some ⟨B1, 0, none⟩), .pointer (some ⟨B2, 0, none⟩)], .func (.func 71) #[.pointer (some ⟨B, 0, none⟩)] #[]] w fun e w' => e = .returned (.tuple #[]) ∧ tl_BS w0 B w' (tl_addAll zs (tl_clip xs lo hi)) := by
 have h1 : 1 ≤ n := by omega
 have HS := Aside0.mk hS
 have HL := Aside0.mk hlen
 refine callsIn_of_wp_marks Tryd.func70 rfl trivial ?_ rfl
 simp only [Tryd.ntmps70, List.size_toArray, List.length_cons, List.length_nil, Nat.reduceAdd, Nat.reduceSub, Array.replicate_succ, Array.replicate_zero, List.push_toArray, List.append_toArray, List.nil_append, List.cons_append]
 gi_wp2
 have bD := Boxed.new w 133 (.func (.func 71) #[.pointer (some ⟨B, 0, none⟩)] #[])
 have hbl : Below w.heap.size w (w.alloc (.cells #[.func (.func 71) #[.pointer (some ⟨B, 0, none⟩)] #[]] 133)) := below_alloc (Below.refl _ _) _
 have hsz : (w.alloc (.cells #[.func (.func 71) #[.pointer (some ⟨B, 0, none⟩)] #[]] 133)).heap.size = w.heap.size + 1 := by simp
 obtain ⟨W0, hW0⟩ : ∃ W0, w.alloc (.cells #[.func (.func 71) #[.pointer (some ⟨B, 0, none⟩)] #[]] 133) = W0 := ⟨_, rfl⟩
 rw [hW0] at bD hbl hsz ⊢
 clear hW0
 have hBlt : B < w.heap.size := by obtain ⟨u, hb, _⟩ := hS; exact (Array.getElem?_eq_some_iff.1 hb).1
 have hBs : w0.heap.size ≤ B := by obtain ⟨u, _, _, _, h⟩ := hS; exact h
 have hw0 : Below w0.heap.size w0 w := by obtain ⟨u, _, _, h, _⟩ := hS; exact h
 refine wpIn_rangeFunc_ownH rfl h1 (gf := 90) (lb := #[.pointer (some ⟨B0, 0, none⟩), .pointer (some ⟨B1, 0, none⟩), .pointer (some ⟨B2, 0, none⟩)]) rfl trivial (enters_of Tryd.func90 (by kernel_rfl) rfl)
  (tl_within_stops (n - 1) (by omega) B0 B1 B2 A cap xs lo hi w0 W0 (by omega) (by omega) (by omega) (pw_cell_below hbl hc0) (pw_cell_below hbl hc1) (pw_cell_below hbl hc2) (below_then hw0 hw0.size hbl) hC (by omega))
  (fun h k => h.then_ k (fun _ hk => .inl hk)) ?hKb (Below.refl _ _) (fun _ => rfl)
  (fun pre W => tl_BS w0 B W (tl_addAll zs pre) ∧ Boxed W w.heap.size 133 (.func (.func 71) #[.pointer (some ⟨B, 0, none⟩)] #[]) ∧ W0.heap.size ≤ W.heap.size ∧ (∀ k, k = B0 ∨ k = B1 ∨ k = B2 → W.heap[k]? = W0.heap[k]?))
  (fun _ _ _ => False)
  ?hI
  (fun _ _ _ _ _ hs _ _ => hs)
  ⟨hS.below hbl, bD, Nat.le_refl _, fun _ _ => rfl⟩
  (fun x a' W => ∃ Bx, W0.heap.size ≤ Bx ∧ W.heap[Bx]? = some (.cells #[.int .i64 x.f0, .int .i64 x.f1, .int .i64 x.f2] 74 (0, 0)) ∧ a' = { tmps := #[.func (.func 90) #[] #[.pointer (some ⟨B0, 0, none⟩), .pointer (some ⟨B1, 0, none⟩), .pointer (some ⟨B2, 0, none⟩)], .func (.func 71) #[.pointer (some ⟨B, 0, none⟩)] #[], undef, .pointer (some ⟨w.heap.size, 0, none⟩), .pointer (some ⟨Bx, 0, none⟩), .func (.func 90) #[] #[.pointer (some ⟨B0, 0, none⟩), .pointer (some ⟨B1, 0, none⟩), .pointer (some ⟨B2, 0, none⟩)], .agg #[.int .i64 x.f0, .int .i64 x.f1, .int .i64 x.f2], undef, undef, undef], defers := [] })
  ?hAx
  ?assign ?body ?done ?stop
 case hKb =>
  intro W l o o' hl ho hc _
  exact Kept.of_grown (grownBy_putObj' W l o') (Kept.refl W _) (fun k e => by cases e; exact .inl ⟨by have := hw0.size; omega, by omega, by omega, by omega⟩)
 case hI =>
  rintro s X Y row ⟨hs1, hs2, hs3, hs4⟩ hg hr
  have hne : ∀ k, k = B0 ∨ k = B1 ∨ k = B2 → k < W0.heap.size := by rintro k (rfl | rfl | rfl) <;> omega
  exact ⟨hs1.own hg (fun r e => ⟨by have := (hr r e).1; have := hw0.size; omega, (hr r e).2⟩), boxed_own w.heap.size 133 (fun (_ : Unit) => Value.func (.func 71) #[.pointer (some ⟨B, 0, none⟩)] #[]) () X Y row hs2 hg (fun r e => (hr r e).2), Nat.le_trans hs3 hg.size,
   fun k hk => (hg.block k (Nat.lt_of_lt_of_le (hne k hk) hs3) (fun e => by have h1 := (hr k e.symm).1; have h2 := hne k hk; omega)).trans (hs4 k hk)⟩
 case hAx =>
  rintro x a' _ X Y row ⟨Bx, h1, h2, h3⟩ hg hr
  refine ⟨Bx, h1, (hg.block Bx (Array.getElem?_eq_some_iff.1 h2).1 (fun e => ?_)).trans h2, h3⟩
  obtain ⟨o, ho, hc⟩ := (hr Bx e.symm).2
  rw [h2] at ho
  cases ho
  cases hc
 case assign =>
  rintro l pre x W K ⟨hS1, bD1, hz1, hk1⟩ hK
  have hsz1 : ∀ k, k = B0 ∨ k = B1 ∨ k = B2 → k < W.heap.size := by rintro k (rfl | rfl | rfl) <;> omega
  have HS1 := Aside0.mk hsz1
  clear hsz1
  gi_wp2
  exact hK _ _ ((KeepsOthers.alloc _ _).from _) (Kept.alloc (Kept.refl _ _) _) ⟨hS1.below (below_alloc (Below.refl _ _) _), bD1.alloc _, by simp; omega, fun k hk => (Below.heap_alloc W _ k (HS1.out k hk)).trans (hk1 k hk)⟩ ⟨W.heap.size, hz1, World.alloc_heap_new _ _, rfl⟩
 case body =>
  rintro l pre x a' W hl ⟨r, hr⟩ ⟨hS1, bD1, hz1, hk1⟩ ⟨Bx, hBx, bX, rfl⟩ hlt
  have cD := bD1.cell
  have x0 := (blk_cell bX 0).trans rfl
  have x1 := (blk_cell bX 1).trans rfl
  have x2 := (blk_cell bX 2).trans rfl
  have h1' : 1 ≤ n - 1 - 1 := by omega
  have HS1 := Aside0.mk hS1
  have HBD := Aside0.mk bD1
  have HK1 := Aside0.mk hk1
  have HLT := Aside0.mk hlt
  clear hS1 bD1 hk1 bX hr hlt
  gi_wp2_with (refine ⟨trivial, ?_⟩; gi_at_call 71; go_loud (refine (CallsIn.inRound l (callsIn_wide.2 (tl_add_any B (tl_addAll zs pre) x.f0 x.f1 x.f2 w0 _ HS1.out (by have := tl_addAll_len pre zs; have := HLT.out; have := HL.out; omega)))).mono ?_); rintro e w' ⟨rfl, hS2, hkp⟩; have HS2 := Aside0.mk hS2; have HKP := Aside0.mk hkp; clear hS2 hkp)
  have hkt : ∀ k o, W.heap[k]? = some o → k ≠ B → (∀ cells, o ≠ .cells cells 74 (0, 0)) → w'.heap[k]? = some o := fun k o hk hnB ho => (HKP.out.2 k (Array.getElem?_eq_some_iff.1 hk).1 (fun h => h.elim (fun e => hnB e) (fun ⟨cells, hc⟩ => ho cells (by rw [hk] at hc; exact Option.some.inj hc)))).trans hk
  have hBc : ∃ u, W.heap[B]? = some (.cells #[u] 131 (0, 0)) := by obtain ⟨u, hb, _⟩ := HS1.out; exact ⟨u, hb⟩
  have hwB : Below w0.heap.size w0 W := by obtain ⟨u, _, _, h, _⟩ := HS1.out; exact h
  have hwB' : Below w0.heap.size w0 w' := by obtain ⟨u, _, _, h, _⟩ := HS2.out; exact h
  have hB0s : ∀ k, k = B0 ∨ k = B1 ∨ k = B2 → k < w.heap.size ∧ k ≠ B := by rintro k (rfl | rfl | rfl) <;> omega
  have hkB : ∀ k, k = B0 ∨ k = B1 ∨ k = B2 → w'.heap[k]? = W0.heap[k]? := fun k hk => by
   obtain ⟨h3, h4⟩ := hB0s k hk
   have h5 := HK1.out k hk
   have h6 := hbl.block k h3
   obtain ⟨o, ho⟩ : ∃ o, w.heap[k]? = some o := ⟨_, Array.getElem?_eq_getElem h3⟩
   rw [h6, ho]
   exact hkt k o (by rw [h5, h6, ho]) h4 (fun cells e => hT k hk cells (by rw [ho, e]))
  refine ⟨⟨HKP.out.1, fun k o _ hk ho => hkt k o hk (fun e => ?_) (fun cells e => ?_)⟩, ⟨HKP.out.1, fun i hi hn => ?_⟩, by rw [tl_addAll_snoc]; exact HS2.out, ?_, Nat.le_trans hz1 HKP.out.1, hkB⟩
  ·obtain ⟨u, hu⟩ := hBc
   subst e
   rw [hu] at hk
   cases hk
   cases ho
  ·subst e
   cases ho
  ·by_cases hib : i < w0.heap.size
   ·exact (hwB'.block i hib).trans (hwB.block i hib).symm
   ·have h7 : i = B0 ∨ i = B1 ∨ i = B2 := by
     unfold tl_SS at hn
     omega
    rw [hkB i h7, HK1.out i h7]
  ·exact hkt _ _ HBD.out (by omega) (fun cells e => by cases e)
 case done =>
  rintro D ys W hD rfl ⟨hS1, bD1, hz1, hk1⟩ hK
  have HS1 := Aside0.mk hS1
  clear hS1 bD1 hz1 hk1
  gi_wp2
  refine ⟨by simp, .inl ⟨_, _, rfl, run_takeDeferred hK, ?_⟩⟩
  exact ⟨_, results_none rfl _ _ _, rfl, HS1.out.own (grownBy_putObj' _ D _) (fun r e => by cases e; exact ⟨by have := hw0.size; omega, _, hK, rfl⟩)⟩
 case stop =>
  intro D c pre W _ _ h _
  exact h.elim

end Go.Proofs.YtglcdgalimgkeaaDoor.PJB
