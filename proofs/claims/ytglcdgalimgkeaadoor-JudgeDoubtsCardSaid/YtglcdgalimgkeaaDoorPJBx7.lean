-- PRINTED by print.py (a twelfth state) out of the translation. Not trusted: Lean checks it.
import Derived.Test.YtglcdgalimgkeaaDoorPJBx0
import Derived.RangeFuncNested
import Derived.RangeFuncBound
import Derived.RangeFuncCalls
import Derived.RangeFuncLeaves
import Derived.RangeFuncBox
import Derived.Shelf.Abstract
import Derived.Shelf.RegionOpen
import Derived.OwnWalkIn
import Derived.TacticsInMore
import Derived.LoopNIn
import Derived.LoopIn
import Derived.OneCell
import Derived.BigQuiet
import Derived.Deep.RegionWith
import Derived.Deep.RegionHeld3
import Derived.IntWalk
namespace Go.Proofs.YtglcdgalimgkeaaDoor.PJB
open Go.RowKit Go.Proofs.YtglcdgalimgkeaaDoorW.PrintWords Go.Proofs.YtglcdgalimgkeaaDoorW.PrintLast Go.Proofs.YtglcdgalimgkeaaDoorW.PrintMore
attribute [local go_sem] max2_int min2_int max_two min_two max_three min_three max_four min_four   -- for this text's walks alone
set_option linter.unusedVariables false
set_option linter.unusedSimpArgs false

attribute [local go_sem] Oper.semAt_some
open Go.Shelf
-- given by hand: tl1

set_option maxRecDepth 100000 in
set_option maxHeartbeats 1000000 in
theorem tl_add1_no (g j : Nat) (a b c f2 : Int) (w : World) (hc : w.cell? ⟨g, j + 2, none⟩ = some (.int .i64 f2)) (hne : (f2 == c) = false) :
  Calls Tryd.prog 92 #[.pointer (some ⟨g, j, none⟩), .agg #[.int .i64 a, .int .i64 b, .int .i64 c]] w fun e w' => e = .returned (.bool false) ∧ Below w.heap.size w w' := by
 have hlt := World.block_lt_of_cell? w _ hc
 have hc' := pw_cell_below (below_alloc (Below.refl _ _) (Obj.cells #[Value.int IntKind.i64 a, Value.int IntKind.i64 b, Value.int IntKind.i64 c] 74)) hc
 go_enter Tryd.func92, Tryd.ntmps92
 go_wp2
 go_quiet (fail)
 go_wp2
 go_ret
 exact ⟨rfl, pw_below_drewN (below_alloc (Below.refl _ _) _) _⟩
set_option maxRecDepth 100000 in
set_option maxHeartbeats 1000000 in
theorem tl_add1_yes (g j : Nat) (a b c f1 : Int) (w : World) (hc1 : w.cell? ⟨g, j + 1, none⟩ = some (.int .i64 f1)) (hz : w.frozen? ⟨g, j + 1, none⟩ = false) (hc : w.cell? ⟨g, j + 2, none⟩ = some (.int .i64 c)) :
  Calls Tryd.prog 92 #[.pointer (some ⟨g, j, none⟩), .agg #[.int .i64 a, .int .i64 b, .int .i64 c]] w fun e w' => e = .returned (.bool true) ∧ ∃ w1, Below w.heap.size w w1 ∧ w' = w1.setCell ⟨g, j + 1, none⟩ (.int .i64 b) := by
 have hlt := World.block_lt_of_cell? w _ hc
 have hb := below_alloc (Below.refl w.heap.size w) (Obj.cells #[Value.int IntKind.i64 a, Value.int IntKind.i64 b, Value.int IntKind.i64 c] 74)
 have hc' := pw_cell_below hb hc
 have hc1' := pw_cell_below hb hc1
 have hz' := (hb.frozen (p := ⟨g, j + 1, none⟩) hlt).trans hz
 clear hb
 go_enter Tryd.func92, Tryd.ntmps92
 go_wp2
 go_quiet (fail)
 go_wp2
 go_ret
 exact ⟨rfl, _, pw_below_drewN (below_alloc (Below.refl _ _) _) _, rfl⟩



def tl_addS (xs : List S74) (s : S74) : List S74 :=
 match xs.getLast? with
 | none => [s]
 | some a => if a.f2 = s.f2 then xs.dropLast ++ [⟨a.f0, s.f1, a.f2⟩] else xs ++ [s]

set_option maxRecDepth 100000 in
set_option maxHeartbeats 1000000 in
theorem tl_ext_nil (P0 : Nat → Prop) (u : Value) (a b c : Int) (w0 w : World) (hB : Below w0.heap.size w0 w) (ho : Kd.R k74 74 w w0.heap.size P0 u []) :
  Calls Tryd.prog 91 #[u, .agg #[.int .i64 a, .int .i64 b, .int .i64 c], .func (.func 92) #[] #[]] w fun e w' => ∃ v0, e = .returned v0 ∧ Kd.R k74 74 w' w0.heap.size (fun k => P0 k ∨ w.heap.size ≤ k) v0 [⟨a, b, c⟩] ∧ Below w0.heap.size w0 w' ∧ Kept w w' P0 := by
 obtain ⟨A, cc, rfl⟩ := Kd.R_slice ho
 have HB := Aside0.mk hB
 have HO := Aside0.mk (show Kd.R k74 74 w w0.heap.size (fun k => P0 k ∨ w.heap.size ≤ k) (.slice A 0 cc) [] from Kd.R_mono ho (fun k hk => .inl hk))
 have HP := Aside0.mk ho
 clear ho hB
 simp only [List.length_nil]
 go_enter Tryd.func91, Tryd.ntmps91
 go_wp2
 go_quiet (fail)
 go_wp2_with (at_builtin; refine Kd.R_append k74 (w0 := w0) w0.heap.size rfl (.tmp 22) (.tmp 24) 28 74 (.agg #[(.int .i64 0), (.int .i64 0), (.int .i64 0)]) 24 rfl Tryd.underlying28 info74 rfl (by decide) (by omega) (.slice A 0 cc) [] (⟨a, b, c⟩ : S74) [.int .i64 a, .int .i64 b, .int .i64 c] (fun k_ => (P0 k_ ∨ w.heap.size ≤ k_)) (fun _ => False) rfl ?aX ?aP (fun _ hk => hk.elim) ?aF ?aO ?aB ?aS ?aL ?_; (case aX => (show Value.slice (some ⟨w.heap.size + 1, 0, none⟩) 1 1 = _; simp)); (case aP => exact k74_mkM _ _ _ (⟨a, b, c⟩ : S74)); (case aF => exact (fun k_ hk => .inr (by simp at hk; omega))); (case aO => exact Kd.R_drewN (Kd.R_alloc HO.out _) _); (case aB => exact pw_below_drewN (below_alloc HB.out _) _); (case aS => (have := HB.out.size; simp; omega)); (case aL => simp); intro v1 w1 ho hb hg hat; have HO1 := Aside0.mk ho; have HB1 := Aside0.mk hb; have HG := Aside0.mk hg; clear ho hb hg hat)
 go_ret
 exact ⟨_, rfl, HO1.out, HB1.out, Kept.of_grown HG.out (Kept.drewN (Kept.alloc (Kept.refl w P0) _) _) (fun k hk => .inl (HP.out.1 k hk))⟩



theorem tl_R_at {α : Type} {d : Kd α} {e : Nat} {w : World} {base : Nat} {ok : Nat → Prop} {A : Option Addr} {n c : Nat} {xs : List α} (h : Kd.R d e w base ok (.slice A n c) xs) (hn : xs ≠ []) : ∃ g, A = some ⟨g, 0, none⟩ ∧ ok g ∧ base ≤ g ∧ g < w.heap.size ∧ ∀ j, w.frozen? ⟨g, j, none⟩ = false := by
 obtain ⟨h0, inner, ho, hr⟩ := h
 rcases ho.2 with ⟨hv, he⟩ | ⟨g, cap, cur, hv, hg, hh, _⟩
 ·injection hv with h1 h2 h3
  exact absurd (List.eq_nil_of_length_eq_zero he) hn
 ·injection hv with h1 h2 h3
  exact ⟨g, h1, h0 g (by rw [h1]; rfl), hg, (Array.getElem?_eq_some_iff.1 hh).1, fun j => blk_frozen hh j⟩
theorem tl_held_cell {w1 W : World} {a : Addr} {v : Value} (h : Aside0 (Below w1.heap.size w1 W)) (hc : w1.cell? a = some v) : W.cell? a = some v := pw_cell_below h.out hc
theorem tl_held_base {w w1 W : World} {o : Obj} (hw : Aside0 (w.alloc o = w1)) (h : Aside0 (Below w1.heap.size w1 W)) : Below w.heap.size w W := by
 obtain ⟨rfl⟩ := hw
 exact below_then (below_alloc (Below.refl _ _) o) (by simp) h.out
theorem tl_held_call {w1 W w' : World} {a0 a1 a2 : Addr} {v0 v1 v2 : Value} (hb : Below W.heap.size W w') (h0 : W.cell? a0 = some v0) (h1 : W.cell? a1 = some v1) (h2 : W.cell? a2 = some v2) (h : Aside0 (Below w1.heap.size w1 W)) :
  w'.cell? a0 = some v0 ∧ w'.cell? a1 = some v1 ∧ w'.cell? a2 = some v2 ∧ Aside0 (Below w1.heap.size w1 w') :=
 ⟨pw_cell_below hb h0, pw_cell_below hb h1, pw_cell_below hb h2, ⟨below_then h.out h.out.size hb⟩⟩
set_option maxRecDepth 100000 in
set_option maxHeartbeats 1000000 in
theorem tl_ext_new (P0 : Nat → Prop) (u : Value) (xs : List S74) (z : S74) (n : Nat) (a b c : Int) (w0 w : World) (hn : xs.length = n) (hB : Below w0.heap.size w0 w) (ho : Kd.R k74 74 w w0.heap.size P0 u (xs ++ [z])) (hl : n < 100000) (hne : (z.f2 == c) = false) :
  Calls Tryd.prog 91 #[u, .agg #[.int .i64 a, .int .i64 b, .int .i64 c], .func (.func 92) #[] #[]] w fun e w' => ∃ v0, e = .returned v0 ∧ Kd.R k74 74 w' w0.heap.size (fun k => P0 k ∨ w.heap.size ≤ k) v0 (xs ++ [z] ++ [⟨a, b, c⟩]) ∧ Below w0.heap.size w0 w' ∧ Kept w w' P0 := by
 obtain ⟨A, cc, rfl⟩ := Kd.R_slice ho
 obtain ⟨ad, rfl, hx0, hx1, hx2⟩ := at_T74 (Kd.R_reads' ho).2.2 (xs.length : Int) (by omega) (by simp; omega)
 have hz : rd_T74 (xs ++ [z]) (xs.length : Int) = z := by simp [rd_T74]
 rw [hz] at hx0 hx1 hx2
 clear hz
 obtain ⟨g, hg, hP, hbg, hgl, _⟩ := tl_R_at ho (by simp)
 obtain rfl := Option.some.inj hg
 clear hg
 have e0 : (xs ++ [z]).length = n + 1 := by simp [hn]
 rw [show (⟨g, 0, none⟩ : Addr).add ((xs.length : Int).toNat * 3) = ⟨g, n * 3, none⟩ from by rw [add_plain, Int.toNat_natCast, hn]] at hx0 hx1 hx2
 rw [e0] at ho ⊢
 clear e0
 have HB := Aside0.mk hB
 have HO := Aside0.mk (show Kd.R k74 74 w w0.heap.size (fun k => P0 k ∨ w.heap.size ≤ k) (.slice (some ⟨g, 0, none⟩) (n + 1) cc) (xs ++ [z]) from Kd.R_mono ho (fun k hk => .inl hk))
 have HP := Aside0.mk ho
 have HN := Aside0.mk hn
 have HX := Aside0.mk hx2
 clear ho hB hx0 hx1 hx2 hn
 have c1 : decide ((0 : Int) < (n : Int) + 1) = true := decide_eq_true (by omega)
 have c3 : (0 : Int) ≤ n := by omega
 have c5 : IntKind.i64.wrap (n : Int) = n := IntWalk.i64_in _ (by omega)
 have c6 : (n : Int) < n + 1 := by omega
 have c4 : ((n : Int)).toNat = n := rfl
 go_enter Tryd.func91, Tryd.ntmps91
 go_wp2
 obtain ⟨w1, hw1⟩ : ∃ w1, w.alloc (Obj.cells #[Value.int IntKind.i64 a, Value.int IntKind.i64 b, Value.int IntKind.i64 c] 74) = w1 := ⟨_, rfl⟩
 have z0 : w1.cell? ⟨w.heap.size, 0, none⟩ = some (.int .i64 a) := by rw [← hw1]; simp
 have z1 : w1.cell? ⟨w.heap.size, 1, none⟩ = some (.int .i64 b) := by rw [← hw1]; simp
 have z2 : w1.cell? ⟨w.heap.size, 2, none⟩ = some (.int .i64 c) := by rw [← hw1]; simp
 have z3 : w1.heap.size = w.heap.size + 1 := by rw [← hw1]; simp
 have HX1 := Aside0.mk (show w1.cell? ⟨g, n * 3 + 2, none⟩ = some (.int .i64 z.f2) by rw [← hw1]; exact pw_cell_below (below_alloc (Below.refl _ _) _) HX.out)
 have HW := Aside0.mk hw1
 have Z3 := Aside0.mk z3
 rw [hw1]
 clear hw1 z3
 have z4 : Aside0 (Below w1.heap.size w1 w1) := ⟨Below.refl _ _⟩
 go_region_held3 (fun W => W.cell? ⟨w.heap.size, 0, none⟩ = some (.int .i64 a) ∧ W.cell? ⟨w.heap.size, 1, none⟩ = some (.int .i64 b) ∧ W.cell? ⟨w.heap.size, 2, none⟩ = some (.int .i64 c) ∧ Aside0 (Below w1.heap.size w1 W)) (first | exact ⟨z0, z1, z2, ⟨below_drew (Below.refl _ _)⟩⟩ | (refine tl_held_call hbw ?_ ?_ ?_ ?_ <;> first | assumption | exact z0 | exact z1 | exact z2 | exact ⟨below_drew (Below.refl _ _)⟩)) (first | (go_at_call 92; refine (tl_add1_no _ _ _ _ _ _ _ ?_ hne).mono ?_; (refine tl_held_cell ?_ HX1.out; first | assumption | exact ⟨below_drew (Below.refl _ _)⟩); rintro e w' ⟨rfl, hbw⟩; have HBW := Aside0.mk (tl_held_base HW (Aside0.mk (below_then (below_drew (Below.refl w1.heap.size w1)) (Nat.le_refl _) hbw)))))
 go_wp2_with (at_builtin; go_loud (refine Kd.R_append k74 (w0 := w0) w0.heap.size rfl (.tmp 22) (.tmp 24) 28 74 (.agg #[(.int .i64 0), (.int .i64 0), (.int .i64 0)]) 24 rfl Tryd.underlying28 info74 rfl (by decide) (by omega) (.slice (some ⟨g, 0, none⟩) (n + 1) cc) (xs ++ [z]) (⟨a, b, c⟩ : S74) [.int .i64 a, .int .i64 b, .int .i64 c] (fun k_ => (P0 k_ ∨ w.heap.size ≤ k_)) (fun _ => False) rfl rfl ?aP (fun _ hk => hk.elim) ?aF ?aO ?aB ?aS ?aL ?_); (case aP => exact k74_mkM _ _ _ (⟨a, b, c⟩ : S74)); (case aF => exact (fun k_ hk => .inr (Nat.le_trans HBW.out.size hk))); (case aO => exact Kd.R_below HO.out HBW.out); (case aB => exact below_then HB.out HB.out.size HBW.out); (case aS => exact Nat.le_trans HB.out.size HBW.out.size); (case aL => (have := HN.out; simp; omega)); intro v1 w3 ho hb hg hat; have HK3 := Aside0.mk (Kept.of_grown hg (Kept.of_below HBW.out P0) (fun k hk => .inl (HP.out.1 k hk))); have HO1 := Aside0.mk ho; have HB1 := Aside0.mk hb; clear ho hb hg hat)
 go_ret
 exact ⟨_, rfl, HO1.out, HB1.out, HK3.out⟩



theorem tl_same_cells {W w2 : World} {g g1 o : Nat} {o0 o1 o2 : Nat} {u v0 v1 v2 : Value} (hb : Below W.heap.size W w2) (hne : g1 ≠ g) (h0 : W.cell? ⟨g1, o0, none⟩ = some v0) (h1 : W.cell? ⟨g1, o1, none⟩ = some v1) (h2 : W.cell? ⟨g1, o2, none⟩ = some v2) :
  (w2.setCell ⟨g, o, none⟩ u).cell? ⟨g1, o0, none⟩ = some v0 ∧ (w2.setCell ⟨g, o, none⟩ u).cell? ⟨g1, o1, none⟩ = some v1 ∧ (w2.setCell ⟨g, o, none⟩ u).cell? ⟨g1, o2, none⟩ = some v2 := by
 refine ⟨?_, ?_, ?_⟩
 ·rw [cell_far hne]; exact pw_cell_below hb h0
 ·rw [cell_far hne]; exact pw_cell_below hb h1
 ·rw [cell_far hne]; exact pw_cell_below hb h2
theorem tl_same_row {P0 : Nat → Prop} {xs : List S74} {z : S74} {n cc g : Nat} {b : Int} {base : Nat} {w w2 : World} (hn : xs.length = n) (ho : Kd.R k74 74 w base P0 (.slice (some ⟨g, 0, none⟩) (n + 1) cc) (xs ++ [z])) (hb : Below w.heap.size w w2) :
  Kd.R k74 74 (w2.setCell ⟨g, n * 3 + 1, none⟩ (.int .i64 b)) base P0 (.slice (some ⟨g, 0, none⟩) (n + 1) cc) (xs ++ [⟨z.f0, b, z.f2⟩]) := by
 have h2 := Kd.R_below ho hb
 obtain ⟨ad, e, hx0, hx1, hx2⟩ := at_T74 (Kd.R_reads' h2).2.2 (n : Int) (by omega) (by simp; omega)
 obtain rfl := Option.some.inj e
 have hz : rd_T74 (xs ++ [z]) (n : Int) = z := by simp [rd_T74, ← hn]
 rw [hz, add_plain, Int.toNat_natCast] at hx0 hx1 hx2
 have h3 := (Kd.R_seg h2 (n : Int) (by omega) (by omega) (c := [.int .i64 z.f0, .int .i64 z.f1, .int .i64 z.f2]) (seg := [.int .i64 b]) (j := 1) rfl (by
  intro j u hu
  rw [Int.toNat_natCast]
  match j, hu with
  | 0, hu => cases hu; exact hx0
  | 1, hu => cases hu; exact hx1
  | 2, hu => cases hu; exact hx2) (show 2 ≤ 3 by omega) (x' := ⟨z.f0, b, z.f2⟩) (okp := fun _ => False) (k74_mkM _ _ _ ⟨z.f0, b, z.f2⟩) (fun _ h => h.elim)).1
 have e1 : (xs ++ [z]).set (n : Int).toNat ⟨z.f0, b, z.f2⟩ = xs ++ [⟨z.f0, b, z.f2⟩] := by rw [Int.toNat_natCast, ← hn, List.set_append_right _ _ (Nat.le_refl _)]; simp
 rw [e1, Int.toNat_natCast] at h3
 exact h3
set_option maxRecDepth 100000 in
set_option maxHeartbeats 1000000 in
theorem tl_ext_same (P0 : Nat → Prop) (u : Value) (xs : List S74) (z : S74) (n : Nat) (a b : Int) (w0 w : World) (hn : xs.length = n) (hB : Below w0.heap.size w0 w) (ho : Kd.R k74 74 w w0.heap.size P0 u (xs ++ [z])) (hl : n < 100000) :
  Calls Tryd.prog 91 #[u, .agg #[.int .i64 a, .int .i64 b, .int .i64 z.f2], .func (.func 92) #[] #[]] w fun e w' => ∃ v0, e = .returned v0 ∧ Kd.R k74 74 w' w0.heap.size P0 v0 (xs ++ [⟨z.f0, b, z.f2⟩]) ∧ Below w0.heap.size w0 w' ∧ Kept w w' P0 := by
 obtain ⟨c, hc⟩ : ∃ c, z.f2 = c := ⟨_, rfl⟩
 obtain ⟨A, cc, rfl⟩ := Kd.R_slice ho
 obtain ⟨ad, rfl, hx0, hx1, hx2⟩ := at_T74 (Kd.R_reads' ho).2.2 (xs.length : Int) (by omega) (by simp; omega)
 have hz : rd_T74 (xs ++ [z]) (xs.length : Int) = z := by simp [rd_T74]
 rw [hz] at hx0 hx1 hx2
 clear hz
 obtain ⟨g, hg, hP, hbg, hgl, hfz⟩ := tl_R_at ho (by simp)
 obtain rfl := Option.some.inj hg
 clear hg
 have e0 : (xs ++ [z]).length = n + 1 := by simp [hn]
 rw [show (⟨g, 0, none⟩ : Addr).add ((xs.length : Int).toNat * 3) = ⟨g, n * 3, none⟩ from by rw [add_plain, Int.toNat_natCast, hn]] at hx0 hx1 hx2
 rw [e0] at ho ⊢
 rw [hc] at hx2 ⊢
 clear e0
 have HB := Aside0.mk hB
 have HP := Aside0.mk ho
 have HN := Aside0.mk hn
 have HF := Aside0.mk (hfz (n * 3 + 1))
 have HX := Aside0.mk hx2
 have HY := Aside0.mk hx1
 have HZC := Aside0.mk hc
 have HPG := Aside0.mk hP
 have HBG := Aside0.mk hbg
 clear ho hB hx0 hx1 hx2 hn hfz hc hP
 have c1 : decide ((0 : Int) < (n : Int) + 1) = true := decide_eq_true (by omega)
 have c3 : (0 : Int) ≤ n := by omega
 have c5 : IntKind.i64.wrap (n : Int) = n := IntWalk.i64_in _ (by omega)
 have c6 : (n : Int) < n + 1 := by omega
 have c4 : ((n : Int)).toNat = n := rfl
 go_enter Tryd.func91, Tryd.ntmps91
 go_wp2
 obtain ⟨w1, hw1⟩ : ∃ w1, w.alloc (Obj.cells #[Value.int IntKind.i64 a, Value.int IntKind.i64 b, Value.int IntKind.i64 c] 74) = w1 := ⟨_, rfl⟩
 have z0 : w1.cell? ⟨w.heap.size, 0, none⟩ = some (.int .i64 a) := by rw [← hw1]; simp
 have z1 : w1.cell? ⟨w.heap.size, 1, none⟩ = some (.int .i64 b) := by rw [← hw1]; simp
 have z2 : w1.cell? ⟨w.heap.size, 2, none⟩ = some (.int .i64 c) := by rw [← hw1]; simp
 have HX1 := Aside0.mk (show w1.cell? ⟨g, n * 3 + 2, none⟩ = some (.int .i64 c) by rw [← hw1]; exact pw_cell_below (below_alloc (Below.refl _ _) _) HX.out)
 have HY1 := Aside0.mk (show w1.cell? ⟨g, n * 3 + 1, none⟩ = some (.int .i64 z.f1) by rw [← hw1]; exact pw_cell_below (below_alloc (Below.refl _ _) _) HY.out)
 have HF1 := Aside0.mk (show w1.frozen? ⟨g, n * 3 + 1, none⟩ = false by rw [← hw1]; exact ((below_alloc (Below.refl w.heap.size w) _).frozen (p := ⟨g, n * 3 + 1, none⟩) hgl).trans HF.out)
 have HW := Aside0.mk hw1
 rw [hw1]
 clear hw1
 have z4 : Aside0 (Below w1.heap.size w1 w1) := ⟨Below.refl _ _⟩
 go_region_held3 (fun W => W.cell? ⟨w.heap.size, 0, none⟩ = some (.int .i64 a) ∧ W.cell? ⟨w.heap.size, 1, none⟩ = some (.int .i64 b) ∧ W.cell? ⟨w.heap.size, 2, none⟩ = some (.int .i64 c)) (first | exact ⟨z0, z1, z2⟩ | exact tl_same_cells (W := w1) hbw1 (Nat.ne_of_gt hgl) z0 z1 z2) (first | (go_at_call 92; refine (tl_add1_yes _ _ _ _ _ _ w1.drew (show w1.drew.cell? _ = _ from HY1.out) (show w1.drew.frozen? _ = _ from HF1.out) (show w1.drew.cell? _ = _ from HX1.out)).mono ?_; rintro e w' ⟨rfl, w2, hbw, rfl⟩; have hbw1 := below_then (below_drew (Below.refl w1.heap.size w1)) (Nat.le_refl _) hbw; have HBW := Aside0.mk (tl_held_base HW (Aside0.mk hbw1))))
 go_wp2
 go_ret
 have hrow := tl_same_row (b := b) HN.out HP.out HBW.out
 rw [HZC.out] at hrow
 exact ⟨_, rfl, hrow, below_set (below_then HB.out HB.out.size HBW.out) HBG.out, Kept.setCell (Kept.of_below HBW.out P0) (.inl HPG.out) _⟩



theorem tl_addS_snoc (xs : List S74) (z s : S74) : tl_addS (xs ++ [z]) s = if z.f2 = s.f2 then xs ++ [⟨z.f0, s.f1, z.f2⟩] else xs ++ [z] ++ [s] := by
 simp [tl_addS]
theorem tl_ext_any (P0 : Nat → Prop) (u : Value) (xs : List S74) (a b c : Int) (w0 w : World) (hB : Below w0.heap.size w0 w) (ho : Kd.R k74 74 w w0.heap.size P0 u xs) (hl : xs.length < 100000) :
  Calls Tryd.prog 91 #[u, .agg #[.int .i64 a, .int .i64 b, .int .i64 c], .func (.func 92) #[] #[]] w fun e w' => ∃ v0, e = .returned v0 ∧ Kd.R k74 74 w' w0.heap.size (fun k => P0 k ∨ w.heap.size ≤ k) v0 (tl_addS xs ⟨a, b, c⟩) ∧ Below w0.heap.size w0 w' ∧ Kept w w' P0 := by
 rcases List.eq_nil_or_concat xs with rfl | ⟨ys, z, rfl⟩
 ·exact tl_ext_nil P0 u a b c w0 w hB ho
 ·rw [List.concat_eq_append] at ho hl ⊢
  rw [tl_addS_snoc]
  by_cases h : z.f2 = c
  ·subst h
   rw [if_pos rfl]
   refine (tl_ext_same P0 u ys z ys.length a b w0 w rfl hB ho (by simp at hl; omega)).mono ?_
   rintro e w' ⟨v0, he, h1, h2, h3⟩
   exact ⟨v0, he, Kd.R_mono h1 (fun k hk => .inl hk), h2, h3⟩
  ·rw [if_neg h]
   exact tl_ext_new P0 u ys z ys.length a b c w0 w rfl hB ho (by simp at hl; omega) (by simpa using h)

def tl_BS (w0 : World) (B : Nat) (w : World) (xs : List S74) : Prop := ∃ u, w.heap[B]? = some (.cells #[u] 131 (0, 0)) ∧ Kd.R k74 74 w w0.heap.size (fun k => k ≠ B) u xs ∧ Below w0.heap.size w0 w ∧ w0.heap.size ≤ B

def tl_TS (w : World) (B k : Nat) : Prop := k = B ∨ ∃ cells, w.heap[k]? = some (.cells cells 74 (0, 0))
theorem tl_R_typed {w : World} {base B : Nat} {u : Value} {xs : List S74} (h : Kd.R k74 74 w base (fun k => k ≠ B) u xs) : Kd.R k74 74 w base (fun k => k ≠ B ∧ ∃ cells, w.heap[k]? = some (.cells cells 74 (0, 0))) u xs :=
 Kd.R_mono (Kd.R_bound h) (fun k hk => by
  obtain ⟨h1, _, _, q, hq, cells, hc⟩ := hk
  have : q = 74 := by simpa [k74, Kd.iso, Kd.pair, Kd.int, Kd.scalar] using hq
  subst this
  exact ⟨h1, cells, hc⟩)
set_option maxRecDepth 100000 in
set_option maxHeartbeats 1000000 in
theorem tl_add_any (B : Nat) (xs : List S74) (a b c : Int) (w0 w : World) (h : tl_BS w0 B w xs) (hl : xs.length < 100000) :
  Calls Tryd.prog 71 #[.pointer (some ⟨B, 0, none⟩), .agg #[.int .i64 a, .int .i64 b, .int .i64 c]] w fun e w' => e = .returned (.tuple #[]) ∧ tl_BS w0 B w' (tl_addS xs ⟨a, b, c⟩) ∧ Kept w w' (tl_TS w B) := by
 obtain ⟨u, hb, ho, hB, hBB⟩ := h
 have hlt : B < w.heap.size := (Array.getElem?_eq_some_iff.1 hb).1
 have hc := (blk_cell hb 0).trans rfl
 have hz := blk_frozen hb 0
 have HB := Aside0.mk hB
 have HO := Aside0.mk ho
 have HK := Aside0.mk hb
 have HBB := Aside0.mk hBB
 have HL := Aside0.mk hl
 clear hB ho hb hBB hl
 go_enter Tryd.func71, Tryd.ntmps71
 go_wp2
 obtain ⟨w1, hw1⟩ : ∃ w1, w.alloc (Obj.cells #[Value.int IntKind.i64 a, Value.int IntKind.i64 b, Value.int IntKind.i64 c] 74) = w1 := ⟨_, rfl⟩
 have z0 : w1.cell? ⟨w.heap.size, 0, none⟩ = some (.int .i64 a) := by rw [← hw1]; simp
 have z1 : w1.cell? ⟨w.heap.size, 1, none⟩ = some (.int .i64 b) := by rw [← hw1]; simp
 have z2 : w1.cell? ⟨w.heap.size, 2, none⟩ = some (.int .i64 c) := by rw [← hw1]; simp
 have hbw : Below w.heap.size w w1 := by rw [← hw1]; exact below_alloc (Below.refl _ _) _
 have z3 := pw_cell_below hbw hc
 have z4 := (hbw.frozen (p := ⟨B, 0, none⟩) hlt).trans hz
 have HW := Aside0.mk hbw
 have HB1 := Aside0.mk (below_then HB.out HB.out.size hbw)
 have HO1 := Aside0.mk (Kd.R_below (tl_R_typed HO.out) hbw)
 have HK1 := Aside0.mk ((hbw.block B hlt).trans HK.out)
 have HLT := Aside0.mk (Nat.lt_of_lt_of_le hlt hbw.size)
 rw [hw1]
 clear hw1 hc hz hbw
 go_region_with (go_at_call 91; refine (tl_ext_any (fun k => k ≠ B ∧ ∃ cells, w.heap[k]? = some (.cells cells 74 (0, 0))) u xs a b c w0 _ (below_drew HB1.out) (Kd.R_drew HO1.out) HL.out).mono ?_; rintro e w' ⟨v0, rfl, hr, hB2, hkp⟩; obtain ⟨A0, c0, rfl⟩ := Kd.R_slice hr; have HR2 := Aside0.mk hr; have HB2 := Aside0.mk hB2; have hk2 : w'.heap[B]? = some (.cells #[u] 131 (0, 0)) := (hkp.2 B HLT.out (fun h => h.1 rfl)).trans HK1.out; have hc2 := (blk_cell hk2 0).trans rfl; have hz2 := blk_frozen hk2 0; have HK2 := Aside0.mk hk2; have HKP := Aside0.mk hkp; clear hr hB2 hkp hk2)
 all_goals
  go_end0
  exact ⟨rfl, ⟨_, by simpa using blk_set HK2.out 0 _, Kd.R_far (Kd.R_mono HR2.out (fun k hk => hk.elim (fun h => h.1) (fun h e => absurd (HLT.out) (by subst e; exact Nat.not_lt.2 h)))) (fun k hk => hk) _, below_set HB2.out HBB.out, HBB.out⟩, (((Kept.of_below HW.out (tl_TS w B)).drew).then_ HKP.out (fun k hk => .inl (.inr hk.2))).setCell (.inl (.inl rfl)) _⟩

end Go.Proofs.YtglcdgalimgkeaaDoor.PJB
