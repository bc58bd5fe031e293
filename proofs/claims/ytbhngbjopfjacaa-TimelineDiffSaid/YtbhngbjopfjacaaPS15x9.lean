-- PRINTED by print.py (a twelfth state) out of the translation. Not trusted: Lean checks it.
import Derived.Test.YtbhngbjopfjacaaPS15x0
import Derived.Test.YtbhngbjopfjacaaPS15x3
import Derived.Test.YtbhngbjopfjacaaPS15x4
import Derived.Test.YtbhngbjopfjacaaPS15x5
import Derived.Test.YtbhngbjopfjacaaPS15x6
import Derived.RangeFuncNested
import Derived.RangeFuncBound
import Derived.RangeFuncCalls
import Derived.RangeFuncLeaves
import Derived.RangeFuncBox
import Derived.Shelf.Abstract
import Derived.Shelf.RegionOpen
import Derived.OwnWalkIn
import Derived.TacticsInMore
import Derived.LoopNIn
import Derived.LoopIn
import Derived.OneCell
import Derived.BigQuiet
import Derived.Deep.RegionWith
import Derived.Deep.RegionHeld3
import Derived.IntWalk
namespace Go.Proofs.Ytbhngbjopfjacaa.PS15
open Go.RowKit Go.Proofs.YtbhngbjopfjacaaW.PrintWords Go.Proofs.YtbhngbjopfjacaaW.PrintLast Go.Proofs.YtbhngbjopfjacaaW.PrintMore
attribute [local go_sem] max2_int min2_int max_two min_two max_three min_three max_four min_four   -- for this text's walks alone
set_option linter.unusedVariables false
set_option linter.unusedSimpArgs false

attribute [local go_sem] Oper.semAt_some
open Go.Shelf
-- given by hand: tl5


set_option maxRecDepth 100000 in
set_option maxHeartbeats 1000000 in
theorem tl_dadd_no (g j : Nat) (a b f1 : Int) (w : World) (hc : w.cell? ⟨g, j + 1, none⟩ = some (.int .i64 f1)) (hne : (f1 == a) = false) :
    Calls Try.prog 53 #[.pointer (some ⟨g, j, none⟩), .agg #[.int .i64 a, .int .i64 b]] w fun e w' => e = .returned (.bool false) ∧ Below w.heap.size w w' := by
  have hlt := World.block_lt_of_cell? w _ hc
  have hc' := pw_cell_below (below_alloc (Below.refl _ _) (Obj.cells #[Value.int IntKind.i64 a, Value.int IntKind.i64 b] 45)) hc
  go_enter Try.func53, Try.ntmps53
  go_wp2
  go_quiet (fail)
  go_wp2
  go_ret
  exact ⟨rfl, pw_below_drewN (below_alloc (Below.refl _ _) _) _⟩
set_option maxRecDepth 100000 in
set_option maxHeartbeats 1000000 in
theorem tl_dadd_yes (g j : Nat) (a b : Int) (w : World) (hc1 : w.cell? ⟨g, j + 1, none⟩ = some (.int .i64 a)) (hz : w.frozen? ⟨g, j + 1, none⟩ = false) :
    Calls Try.prog 53 #[.pointer (some ⟨g, j, none⟩), .agg #[.int .i64 a, .int .i64 b]] w fun e w' => e = .returned (.bool true) ∧ ∃ w1, Below w.heap.size w w1 ∧ w' = w1.setCell ⟨g, j + 1, none⟩ (.int .i64 b) := by
  have hlt := World.block_lt_of_cell? w _ hc1
  have hb := below_alloc (Below.refl w.heap.size w) (Obj.cells #[Value.int IntKind.i64 a, Value.int IntKind.i64 b] 45)
  have hc1' := pw_cell_below hb hc1
  have hz' := (hb.frozen (p := ⟨g, j + 1, none⟩) hlt).trans hz
  clear hb
  go_enter Try.func53, Try.ntmps53
  go_wp2
  go_quiet (fail)
  go_wp2
  go_ret
  exact ⟨rfl, _, pw_below_drewN (below_alloc (Below.refl _ _) _) _, rfl⟩
def tl_addT (xs : List S45) (s : S45) : List S45 :=
  match xs.getLast? with
  | none => [s]
  | some a => if a.f1 = s.f0 then xs.dropLast ++ [⟨a.f0, s.f1⟩] else xs ++ [s]
theorem tl_addT_snoc (xs : List S45) (z s : S45) : tl_addT (xs ++ [z]) s = if z.f1 = s.f0 then xs ++ [⟨z.f0, s.f1⟩] else xs ++ [z] ++ [s] := by
  simp [tl_addT]
theorem tl_addT_len (xs : List S45) (s : S45) : (tl_addT xs s).length ≤ xs.length + 1 := by
  unfold tl_addT
  split
  · simp
  · split <;> simp <;> omega

set_option maxRecDepth 100000 in
set_option maxHeartbeats 1000000 in
theorem tl_dext_nil (P0 : Nat → Prop) (u : Value) (a b : Int) (w0 w : World) (hB : Below w0.heap.size w0 w) (ho : Kd.R k45 45 w w0.heap.size P0 u []) :
    Calls Try.prog 52 #[u, .agg #[.int .i64 a, .int .i64 b], .func (.func 53) #[] #[]] w fun e w' => ∃ v0, e = .returned v0 ∧ Kd.R k45 45 w' w0.heap.size (fun k => P0 k ∨ w.heap.size ≤ k) v0 [⟨a, b⟩] ∧ Below w0.heap.size w0 w' ∧ Kept w w' P0 := by
  obtain ⟨A, cc, rfl⟩ := Kd.R_slice ho
  have HB := Aside0.mk hB
  have HO := Aside0.mk (show Kd.R k45 45 w w0.heap.size (fun k => P0 k ∨ w.heap.size ≤ k) (.slice A 0 cc) [] from Kd.R_mono ho (fun k hk => .inl hk))
  have HP := Aside0.mk ho
  clear ho hB
  simp only [List.length_nil]
  go_enter Try.func52, Try.ntmps52
  go_wp2
  go_quiet (fail)
  go_wp2_with (at_builtin; refine Kd.R_append k45 (w0 := w0) w0.heap.size rfl (.tmp 22) (.tmp 24) 46 45 (.agg #[(.int .i64 0), (.int .i64 0)]) 16 rfl Try.underlying46 info45 rfl (by decide) (by omega) (.slice A 0 cc) [] (⟨a, b⟩ : S45) [.int .i64 a, .int .i64 b] (fun k_ => (P0 k_ ∨ w.heap.size ≤ k_)) (fun _ => False) rfl ?aX ?aP (fun _ hk => hk.elim) ?aF ?aO ?aB ?aS ?aL ?_; (case aX => (show Value.slice (some ⟨w.heap.size + 1, 0, none⟩) 1 1 = _; simp)); (case aP => exact k45_mkM _ _ _ (⟨a, b⟩ : S45)); (case aF => exact (fun k_ hk => .inr (by simp at hk; omega))); (case aO => exact Kd.R_drewN (Kd.R_alloc HO.out _) _); (case aB => exact pw_below_drewN (below_alloc HB.out _) _); (case aS => (have := HB.out.size; simp; omega)); (case aL => simp); intro v1 w1 ho hb hg hat; have HO1 := Aside0.mk ho; have HB1 := Aside0.mk hb; have HG := Aside0.mk hg; clear ho hb hg hat)
  go_ret
  exact ⟨_, rfl, HO1.out, HB1.out, Kept.of_grown HG.out (Kept.drewN (Kept.alloc (Kept.refl w P0) _) _) (fun k hk => .inl (HP.out.1 k hk))⟩
theorem tl_dheld_call {w1 W w' : World} {a0 a1 : Addr} {v0 v1 : Value} (hb : Below W.heap.size W w') (h0 : W.cell? a0 = some v0) (h1 : W.cell? a1 = some v1) (h : Aside0 (Below w1.heap.size w1 W)) :
    w'.cell? a0 = some v0 ∧ w'.cell? a1 = some v1 ∧ Aside0 (Below w1.heap.size w1 w') :=
  ⟨pw_cell_below hb h0, pw_cell_below hb h1, ⟨below_then h.out h.out.size hb⟩⟩
set_option maxRecDepth 100000 in
set_option maxHeartbeats 1000000 in
theorem tl_dext_new (P0 : Nat → Prop) (u : Value) (xs : List S45) (z : S45) (n : Nat) (a b : Int) (w0 w : World) (hn : xs.length = n) (hB : Below w0.heap.size w0 w) (ho : Kd.R k45 45 w w0.heap.size P0 u (xs ++ [z])) (hl : n < 100000) (hne : (z.f1 == a) = false) :
    Calls Try.prog 52 #[u, .agg #[.int .i64 a, .int .i64 b], .func (.func 53) #[] #[]] w fun e w' => ∃ v0, e = .returned v0 ∧ Kd.R k45 45 w' w0.heap.size (fun k => P0 k ∨ w.heap.size ≤ k) v0 (xs ++ [z] ++ [⟨a, b⟩]) ∧ Below w0.heap.size w0 w' ∧ Kept w w' P0 := by
  obtain ⟨A, cc, rfl⟩ := Kd.R_slice ho
  obtain ⟨ad, rfl, hx0, hx1⟩ := at_T45 (Kd.R_reads' ho).2.2 (xs.length : Int) (by omega) (by simp; omega)
  have hz : rd_T45 (xs ++ [z]) (xs.length : Int) = z := by simp [rd_T45]
  rw [hz] at hx0 hx1
  clear hz
  obtain ⟨g, hg, hP, hbg, hgl, _⟩ := tl_R_at ho (by simp)
  obtain rfl := Option.some.inj hg
  clear hg
  have e0 : (xs ++ [z]).length = n + 1 := by simp [hn]
  rw [show (⟨g, 0, none⟩ : Addr).add ((xs.length : Int).toNat * 2) = ⟨g, n * 2, none⟩ from by rw [add_plain, Int.toNat_natCast, hn]] at hx0 hx1
  rw [e0] at ho ⊢
  clear e0
  have HB := Aside0.mk hB
  have HO := Aside0.mk (show Kd.R k45 45 w w0.heap.size (fun k => P0 k ∨ w.heap.size ≤ k) (.slice (some ⟨g, 0, none⟩) (n + 1) cc) (xs ++ [z]) from Kd.R_mono ho (fun k hk => .inl hk))
  have HP := Aside0.mk ho
  have HN := Aside0.mk hn
  have HX := Aside0.mk hx1
  clear ho hB hx0 hx1 hn
  have c1 : decide ((0 : Int) < (n : Int) + 1) = true := decide_eq_true (by omega)
  have c3 : (0 : Int) ≤ n := by omega
  have c5 : IntKind.i64.wrap (n : Int) = n := IntWalk.i64_in _ (by omega)
  have c6 : (n : Int) < n + 1 := by omega
  have c4 : ((n : Int)).toNat = n := rfl
  go_enter Try.func52, Try.ntmps52
  go_wp2
  obtain ⟨w1, hw1⟩ : ∃ w1, w.alloc (Obj.cells #[Value.int IntKind.i64 a, Value.int IntKind.i64 b] 45) = w1 := ⟨_, rfl⟩
  have z0 : w1.cell? ⟨w.heap.size, 0, none⟩ = some (.int .i64 a) := by rw [← hw1]; simp
  have z1 : w1.cell? ⟨w.heap.size, 1, none⟩ = some (.int .i64 b) := by rw [← hw1]; simp
  have HX1 := Aside0.mk (show w1.cell? ⟨g, n * 2 + 1, none⟩ = some (.int .i64 z.f1) by rw [← hw1]; exact pw_cell_below (below_alloc (Below.refl _ _) _) HX.out)
  have HW := Aside0.mk hw1
  rw [hw1]
  clear hw1
  go_region_held3 (fun W => W.cell? ⟨w.heap.size, 0, none⟩ = some (.int .i64 a) ∧ W.cell? ⟨w.heap.size, 1, none⟩ = some (.int .i64 b) ∧ Aside0 (Below w1.heap.size w1 W)) (first | exact ⟨z0, z1, ⟨below_drew (Below.refl _ _)⟩⟩ | (refine tl_dheld_call hbw ?_ ?_ ?_ <;> first | assumption | exact z0 | exact z1 | exact ⟨below_drew (Below.refl _ _)⟩)) (first | (go_at_call 53; refine (tl_dadd_no _ _ _ _ _ _ ?_ hne).mono ?_; (refine tl_held_cell ?_ HX1.out; first | assumption | exact ⟨below_drew (Below.refl _ _)⟩); rintro e w' ⟨rfl, hbw⟩; have HBW := Aside0.mk (tl_held_base HW (Aside0.mk (below_then (below_drew (Below.refl w1.heap.size w1)) (Nat.le_refl _) hbw)))))
  go_wp2_with (at_builtin; refine Kd.R_append k45 (w0 := w0) w0.heap.size rfl (.tmp 22) (.tmp 24) 46 45 (.agg #[(.int .i64 0), (.int .i64 0)]) 16 rfl Try.underlying46 info45 rfl (by decide) (by omega) (.slice (some ⟨g, 0, none⟩) (n + 1) cc) (xs ++ [z]) (⟨a, b⟩ : S45) [.int .i64 a, .int .i64 b] (fun k_ => (P0 k_ ∨ w.heap.size ≤ k_)) (fun _ => False) rfl rfl ?aP (fun _ hk => hk.elim) ?aF ?aO ?aB ?aS ?aL ?_; (case aP => exact k45_mkM _ _ _ (⟨a, b⟩ : S45)); (case aF => exact (fun k_ hk => .inr (Nat.le_trans HBW.out.size hk))); (case aO => exact Kd.R_below HO.out HBW.out); (case aB => exact below_then HB.out HB.out.size HBW.out); (case aS => exact Nat.le_trans HB.out.size HBW.out.size); (case aL => (have := HN.out; simp; omega)); intro v1 w3 ho hb hg hat; have HK3 := Aside0.mk (Kept.of_grown hg (Kept.of_below HBW.out P0) (fun k hk => .inl (HP.out.1 k hk))); have HO1 := Aside0.mk ho; have HB1 := Aside0.mk hb; clear ho hb hg hat)
  go_ret
  exact ⟨_, rfl, HO1.out, HB1.out, HK3.out⟩
theorem tl_dsame_cells {W w2 : World} {g g1 o : Nat} {o0 o1 : Nat} {u v0 v1 : Value} (hb : Below W.heap.size W w2) (hne : g1 ≠ g) (h0 : W.cell? ⟨g1, o0, none⟩ = some v0) (h1 : W.cell? ⟨g1, o1, none⟩ = some v1) :
    (w2.setCell ⟨g, o, none⟩ u).cell? ⟨g1, o0, none⟩ = some v0 ∧ (w2.setCell ⟨g, o, none⟩ u).cell? ⟨g1, o1, none⟩ = some v1 := by
  refine ⟨?_, ?_⟩
  · rw [cell_far hne]; exact pw_cell_below hb h0
  · rw [cell_far hne]; exact pw_cell_below hb h1
theorem tl_dsame_row {P0 : Nat → Prop} {xs : List S45} {z : S45} {n cc g : Nat} {b : Int} {base : Nat} {w w2 : World} (hn : xs.length = n) (ho : Kd.R k45 45 w base P0 (.slice (some ⟨g, 0, none⟩) (n + 1) cc) (xs ++ [z])) (hb : Below w.heap.size w w2) :
    Kd.R k45 45 (w2.setCell ⟨g, n * 2 + 1, none⟩ (.int .i64 b)) base P0 (.slice (some ⟨g, 0, none⟩) (n + 1) cc) (xs ++ [⟨z.f0, b⟩]) := by
  have h2 := Kd.R_below ho hb
  obtain ⟨ad, e, hx0, hx1⟩ := at_T45 (Kd.R_reads' h2).2.2 (n : Int) (by omega) (by simp; omega)
  obtain rfl := Option.some.inj e
  have hz : rd_T45 (xs ++ [z]) (n : Int) = z := by simp [rd_T45, ← hn]
  rw [hz, add_plain, Int.toNat_natCast] at hx0 hx1
  have h3 := (Kd.R_seg h2 (n : Int) (by omega) (by omega) (c := [.int .i64 z.f0, .int .i64 z.f1]) (seg := [.int .i64 b]) (j := 1) rfl (by
    intro j u hu
    rw [Int.toNat_natCast]
    match j, hu with
    | 0, hu => cases hu; exact hx0
    | 1, hu => cases hu; exact hx1) (show 2 ≤ 2 by omega) (x' := ⟨z.f0, b⟩) (okp := fun _ => False) (k45_mkM _ _ _ ⟨z.f0, b⟩) (fun _ h => h.elim)).1
  have e1 : (xs ++ [z]).set (n : Int).toNat ⟨z.f0, b⟩ = xs ++ [⟨z.f0, b⟩] := by rw [Int.toNat_natCast, ← hn, List.set_append_right _ _ (Nat.le_refl _)]; simp
  rw [e1, Int.toNat_natCast] at h3
  exact h3
set_option maxRecDepth 100000 in
set_option maxHeartbeats 1000000 in
theorem tl_dext_same (P0 : Nat → Prop) (u : Value) (xs : List S45) (z : S45) (n : Nat) (b : Int) (w0 w : World) (hn : xs.length = n) (hB : Below w0.heap.size w0 w) (ho : Kd.R k45 45 w w0.heap.size P0 u (xs ++ [z])) (hl : n < 100000) :
    Calls Try.prog 52 #[u, .agg #[.int .i64 z.f1, .int .i64 b], .func (.func 53) #[] #[]] w fun e w' => ∃ v0, e = .returned v0 ∧ Kd.R k45 45 w' w0.heap.size P0 v0 (xs ++ [⟨z.f0, b⟩]) ∧ Below w0.heap.size w0 w' ∧ Kept w w' P0 := by
  obtain ⟨a, hc⟩ : ∃ a, z.f1 = a := ⟨_, rfl⟩
  obtain ⟨A, cc, rfl⟩ := Kd.R_slice ho
  obtain ⟨ad, rfl, hx0, hx1⟩ := at_T45 (Kd.R_reads' ho).2.2 (xs.length : Int) (by omega) (by simp; omega)
  have hz : rd_T45 (xs ++ [z]) (xs.length : Int) = z := by simp [rd_T45]
  rw [hz] at hx0 hx1
  clear hz
  obtain ⟨g, hg, hP, hbg, hgl, hfz⟩ := tl_R_at ho (by simp)
  obtain rfl := Option.some.inj hg
  clear hg
  have e0 : (xs ++ [z]).length = n + 1 := by simp [hn]
  rw [show (⟨g, 0, none⟩ : Addr).add ((xs.length : Int).toNat * 2) = ⟨g, n * 2, none⟩ from by rw [add_plain, Int.toNat_natCast, hn]] at hx0 hx1
  rw [e0] at ho ⊢
  rw [hc] at hx1 ⊢
  clear e0
  have HB := Aside0.mk hB
  have HP := Aside0.mk ho
  have HN := Aside0.mk hn
  have HF := Aside0.mk (hfz (n * 2 + 1))
  have HY := Aside0.mk hx1
  have HPG := Aside0.mk hP
  have HBG := Aside0.mk hbg
  clear ho hB hx0 hx1 hn hfz hc hP
  have c1 : decide ((0 : Int) < (n : Int) + 1) = true := decide_eq_true (by omega)
  have c3 : (0 : Int) ≤ n := by omega
  have c5 : IntKind.i64.wrap (n : Int) = n := IntWalk.i64_in _ (by omega)
  have c6 : (n : Int) < n + 1 := by omega
  have c4 : ((n : Int)).toNat = n := rfl
  go_enter Try.func52, Try.ntmps52
  go_wp2
  obtain ⟨w1, hw1⟩ : ∃ w1, w.alloc (Obj.cells #[Value.int IntKind.i64 a, Value.int IntKind.i64 b] 45) = w1 := ⟨_, rfl⟩
  have z0 : w1.cell? ⟨w.heap.size, 0, none⟩ = some (.int .i64 a) := by rw [← hw1]; simp
  have z1 : w1.cell? ⟨w.heap.size, 1, none⟩ = some (.int .i64 b) := by rw [← hw1]; simp
  have HY1 := Aside0.mk (show w1.cell? ⟨g, n * 2 + 1, none⟩ = some (.int .i64 a) by rw [← hw1]; exact pw_cell_below (below_alloc (Below.refl _ _) _) HY.out)
  have HF1 := Aside0.mk (show w1.frozen? ⟨g, n * 2 + 1, none⟩ = false by rw [← hw1]; exact ((below_alloc (Below.refl w.heap.size w) _).frozen (p := ⟨g, n * 2 + 1, none⟩) hgl).trans HF.out)
  have HW := Aside0.mk hw1
  rw [hw1]
  clear hw1
  go_region_held3 (fun W => W.cell? ⟨w.heap.size, 0, none⟩ = some (.int .i64 a) ∧ W.cell? ⟨w.heap.size, 1, none⟩ = some (.int .i64 b)) (first | exact ⟨z0, z1⟩ | exact tl_dsame_cells (W := w1) hbw1 (Nat.ne_of_gt hgl) z0 z1) (first | (go_at_call 53; refine (tl_dadd_yes _ _ _ _ w1.drew (show w1.drew.cell? _ = _ from HY1.out) (show w1.drew.frozen? _ = _ from HF1.out)).mono ?_; rintro e w' ⟨rfl, w2, hbw, rfl⟩; have hbw1 := below_then (below_drew (Below.refl w1.heap.size w1)) (Nat.le_refl _) hbw; have HBW := Aside0.mk (tl_held_base HW (Aside0.mk hbw1))))
  go_wp2
  go_ret
  exact ⟨_, rfl, tl_dsame_row HN.out HP.out HBW.out, below_set (below_then HB.out HB.out.size HBW.out) HBG.out, Kept.setCell (Kept.of_below HBW.out P0) (.inl HPG.out) _⟩
theorem tl_dext_any (P0 : Nat → Prop) (u : Value) (xs : List S45) (a b : Int) (w0 w : World) (hB : Below w0.heap.size w0 w) (ho : Kd.R k45 45 w w0.heap.size P0 u xs) (hl : xs.length < 100000) :
    Calls Try.prog 52 #[u, .agg #[.int .i64 a, .int .i64 b], .func (.func 53) #[] #[]] w fun e w' => ∃ v0, e = .returned v0 ∧ Kd.R k45 45 w' w0.heap.size (fun k => P0 k ∨ w.heap.size ≤ k) v0 (tl_addT xs ⟨a, b⟩) ∧ Below w0.heap.size w0 w' ∧ Kept w w' P0 := by
  rcases List.eq_nil_or_concat xs with rfl | ⟨ys, z, rfl⟩
  · exact tl_dext_nil P0 u a b w0 w hB ho
  · rw [List.concat_eq_append] at ho hl ⊢
    rw [tl_addT_snoc]
    by_cases h : z.f1 = a
    · subst h
      rw [if_pos rfl]
      refine (tl_dext_same P0 u ys z ys.length b w0 w rfl hB ho (by simp at hl; omega)).mono ?_
      rintro e w' ⟨v0, he, h1, h2, h3⟩
      exact ⟨v0, he, Kd.R_mono h1 (fun k hk => .inl hk), h2, h3⟩
    · rw [if_neg h]
      exact tl_dext_new P0 u ys z ys.length a b w0 w rfl hB ho (by simp at hl; omega) (by simpa using h)



def tl_dfr (D : Nat) : Deferred := { target := Target.collected D, args := #[] }
def tl_Dfs (base : Nat) (Ds : List Nat) (W : World) : Prop := Ds.Nodup ∧ (∀ D ∈ Ds, W.heap[D]? = some (.deferred (some []))) ∧ ∀ D ∈ Ds, base ≤ D
theorem tl_leaves_collected {fn : Func} {tmps : Array Value} {n base : Nat} {R : Ending → World → Prop} : ∀ (Ds : List Nat) (w : World), tl_Dfs base Ds w →
    (∀ w' : World, w'.os = w.os → w'.tape = w.tape → w'.output = w.output → w'.heap.size = w.heap.size → (∀ k, k ∉ Ds → w'.heap[k]? = w.heap[k]?) → ∃ v, (results fn tmps).run Try.prog w' = .ok v w' ∧ R (.returned v) w') →
    LeavesInM Fence.wide n Try.prog fn tmps R (Ds.map tl_dfr) .returning w := by
  intro Ds
  induction Ds with
  | nil =>
    intro w _ h
    exact h w rfl rfl rfl rfl (fun _ _ => rfl)
  | cons D Ds ih =>
    rintro w ⟨hnd, hD, hbs⟩ h
    refine ⟨by simp, .inl ⟨D, _, rfl, run_takeDeferred (hD D (by simp)), ?_⟩⟩
    have hnd' := List.nodup_cons.1 hnd
    refine ih _ ⟨hnd'.2, fun D' hD' => ?_, fun D' hD' => hbs D' (by simp [hD'])⟩ (fun w' h1 h2 h3 h4 h5 => h w' h1 h2 h3 (by rw [h4]; exact World.putObj_size) (fun k hk => ?_))
    · exact (World.putObj_heap_other (fun e => hnd'.1 (by rw [← e]; exact hD'))).trans (hD D' (by simp [hD']))
    · have hk' : k ≠ D ∧ k ∉ Ds := by simpa using hk
      rw [h5 k hk'.2]
      exact World.putObj_heap_other hk'.1
def tl_DS (w0 : World) (B : Nat) (w : World) (xs : List S45) : Prop := ∃ u, w.heap[B]? = some (.cells #[u] 46 (0, 0)) ∧ Kd.R k45 45 w w0.heap.size (fun k => k ≠ B) u xs ∧ Below w0.heap.size w0 w ∧ w0.heap.size ≤ B
theorem tl_DS.own {w0 : World} {B : Nat} {X Y : World} {row : Option Nat} {xs : List S45} (h : tl_DS w0 B X xs) (hg : X.grownBy Y row) (hr : ∀ r, row = some r → w0.heap.size ≤ r ∧ ∃ o : Obj, X.heap[r]? = some o ∧ o.isCells = false) : tl_DS w0 B Y xs := by
  obtain ⟨u, hb, ho, hB, hBB⟩ := h
  have hne : ∀ k, (∃ cells q, X.heap[k]? = some (.cells cells q (0, 0))) → some k ≠ row := by
    rintro k ⟨cells, q, hk⟩ e
    obtain ⟨_, o, h1, h2⟩ := hr k e.symm
    rw [hk] at h1
    cases h1
    cases h2
  refine ⟨u, (hg.block B (Array.getElem?_eq_some_iff.1 hb).1 (hne B ⟨_, _, hb⟩)).trans hb, ?_, hB.grown hg hB.size (fun r e => (hr r e).1), hBB⟩
  exact Kd.R_mono (Kd.R_grown (Kd.R_bound ho) hg (fun k hk => by obtain ⟨_, _, _, q, _, cells, hc⟩ := hk; exact hne k ⟨cells, q, hc⟩)) (fun k hk => hk.1)
theorem tl_DS.below {w0 : World} {B : Nat} {X Y : World} {xs : List S45} (h : tl_DS w0 B X xs) (hb : Below X.heap.size X Y) : tl_DS w0 B Y xs := h.own (grown_of_below hb none) (by simp)
theorem tl_DS.low {w0 W : World} {B : Nat} {xs : List S45} (h : tl_DS w0 B W xs) : Below w0.heap.size w0 W := by obtain ⟨_, _, _, h, _⟩ := h; exact h
theorem tl_DS.lt {w0 W : World} {B : Nat} {xs : List S45} (h : tl_DS w0 B W xs) : B < W.heap.size := by obtain ⟨_, h, _⟩ := h; exact (Array.getElem?_eq_some_iff.1 h).1
theorem tl_DS.new {w W : World} (h : Below w.heap.size w W) : tl_DS w W.heap.size (W.alloc (.cells #[.slice none 0 0] 46)) [] :=
  ⟨_, World.alloc_heap_new _ _, Kd.R_nil _ _ _ _ _, below_alloc h _, h.size⟩
def tl_TD (w : World) (B k : Nat) : Prop := k = B ∨ ∃ cells, w.heap[k]? = some (.cells cells 45 (0, 0))
theorem tl_R_typedD {w : World} {base B : Nat} {u : Value} {xs : List S45} (h : Kd.R k45 45 w base (fun k => k ≠ B) u xs) : Kd.R k45 45 w base (fun k => k ≠ B ∧ ∃ cells, w.heap[k]? = some (.cells cells 45 (0, 0))) u xs :=
  Kd.R_mono (Kd.R_bound h) (fun k hk => by
    obtain ⟨h1, _, _, q, hq, cells, hc⟩ := hk
    have : q = 45 := by simpa [k45, Kd.iso, Kd.pair, Kd.int, Kd.scalar] using hq
    subst this
    exact ⟨h1, cells, hc⟩)
def tl_step1 (o : Int) (out : List S45) (t : S25) : List S45 := if t.f2 = o then out else tl_addT out ⟨t.f0, t.f1⟩
def tl_stepP (m : List S25) (out : List S45) (s : S25) : List S45 := (tl_clip m s.f0 s.f1).foldl (tl_step1 s.f2) out
def tl_diffP (l m : List S25) : List S45 := l.foldl (tl_stepP m) []
def tl_diffB (l m : List S25) : Bool := tl_validB l && tl_validB m && decide (tl_tend l = tl_tend m)
def timeline_Diff.f (l m : List S25) : Option (List S45 × Int) := some (if tl_diffB l m = true then (tl_diffP l m, 0) else ([], 150))
theorem tl_step1_len (o : Int) (out : List S45) (t : S25) : (tl_step1 o out t).length ≤ out.length + 1 := by
  unfold tl_step1
  split
  · omega
  · exact tl_addT_len _ _
theorem tl_steps_len (o : Int) (ys : List S25) : ∀ out : List S45, (ys.foldl (tl_step1 o) out).length ≤ out.length + ys.length := by
  induction ys with
  | nil => intro out; simp
  | cons y ys ih =>
    intro out
    have h1 := ih (tl_step1 o out y)
    have h2 := tl_step1_len o out y
    simp only [List.foldl_cons, List.length_cons]
    omega
theorem tl_stepP_len (m : List S25) (out : List S45) (s : S25) : (tl_stepP m out s).length ≤ out.length + m.length := Nat.le_trans (tl_steps_len _ _ _) (Nat.add_le_add_left (tl_clip_len _ _ _) _)
theorem tl_diff_len (m l : List S25) : ∀ out : List S45, (l.foldl (tl_stepP m) out).length ≤ out.length + l.length * m.length := by
  induction l with
  | nil => intro out; simp
  | cons y ys ih =>
    intro out
    have h1 := ih (tl_stepP m out y)
    have h2 := tl_stepP_len m out y
    simp only [List.foldl_cons, List.length_cons, Nat.succ_mul]
    omega
theorem tl_diff_take_len {l m : List S25} (hl : l.length ≤ 200) (hm : m.length ≤ 200) (k : Nat) : ((l.take k).foldl (tl_stepP m) []).length ≤ 40000 := by
  have h1 := tl_diff_len m (l.take k) []
  have h2 : (l.take k).length * m.length ≤ 200 * 200 := Nat.mul_le_mul (by simp; omega) hm
  simp at h1 h2
  omega

set_option maxRecDepth 100000 in
set_option maxHeartbeats 4000000 in
theorem tl_diff_in (n : Nat) (hn : 6 ≤ n) (A0 : Option Addr) (c0 : Nat) (l0 : List S25) (A1 : Option Addr) (c1 : Nat) (l1 : List S25) (w : World) (hr0 : Kd.C k25 w A0 l0.length l0) (hc0 : l0.length ≤ c0) (hr1 : Kd.C k25 w A1 l1.length l1) (hc1 : l1.length ≤ c1)
    (hv : tl_validB l0 = true) (hv1 : tl_validB l1 = true) (he : tl_tend l0 = tl_tend l1) :
    CallsIn Fence.wide n Try.prog 32 #[.slice A0 l0.length c0, .slice A1 l1.length c1] w fun e w' => ∃ v : Value, e = .returned (.tuple #[v, .int .i64 0]) ∧ Kd.R k45 45 w' w.heap.size (fun _ => True) v (tl_diffP l0 l1) ∧ Below w.heap.size w w' := by
  have h1 : 1 ≤ n := by omega
  have hn0 := hr0.2.1
  have hn1 := hr1.2.1
  have hl : l0.length ≤ 200 := by unfold tl_validB at hv; simp at hv; exact hv.2
  have hl1 : l1.length ≤ 200 := by unfold tl_validB at hv1; simp at hv1; exact hv1.2
  have HR := Aside0.mk hr0
  have HC := Aside0.mk hc0
  have HR1 := Aside0.mk hr1
  have HC1 := Aside0.mk hc1
  have HVF := Aside0.mk ((tl_valid_f l0 hn0 (k := l0.length + 1) (by omega)).trans (by rw [hv]))
  have HVF1 := Aside0.mk ((tl_valid_f l1 hn1 (k := l1.length + 1) (by omega)).trans (by rw [hv1]))
  have HEF := Aside0.mk (tl_end_f l0 hn0)
  have HEF1 := Aside0.mk (tl_end_f l1 hn1)
  have ht : (tl_tend l0 != tl_tend l1) = false := by simpa using he
  clear hr0 hc0 hr1 hc1 hn0 hn1 hv hv1 he
  refine callsIn_of_wp_marks Try.func32 rfl trivial ?_ rfl
  simp only [Try.ntmps32, List.size_toArray, List.length_cons, List.length_nil, Nat.reduceAdd, Nat.reduceSub, Array.replicate_succ, Array.replicate_zero, List.push_toArray, List.append_toArray, List.nil_append, List.cons_append]
  gi_wp2_with fail
  refine ⟨trivial, ?_⟩
  refine (callsIn_wide.2 (timeline_Valid.calls _ _ _ l0 true _ HR.out HC.out HVF.out)).mono ?_
  rintro e w1 ⟨rfl, hb1⟩
  have HB1 := Aside0.mk hb1
  clear hb1
  gi_wp2_with fail
  refine ⟨trivial, ?_⟩
  refine (callsIn_wide.2 (timeline_Valid.calls _ _ _ l1 true _ (Kd.C_below HR1.out HB1.out) HC1.out HVF1.out)).mono ?_
  rintro e w2 ⟨rfl, hb2⟩
  have HB2 := Aside0.mk (below_then HB1.out HB1.out.size hb2)
  clear hb2
  gi_wp2_with fail
  refine ⟨trivial, ?_⟩
  refine (callsIn_wide.2 (timeline_end.calls _ _ l0 (tl_tend l0) _ (Kd.C_below HR.out HB2.out) HC.out HEF.out)).mono ?_
  rintro e w3 ⟨rfl, hb3⟩
  have HB3 := Aside0.mk (below_then HB2.out HB2.out.size hb3.below)
  clear hb3
  gi_wp2_with fail
  refine ⟨trivial, ?_⟩
  refine (callsIn_wide.2 (timeline_end.calls _ _ l1 (tl_tend l1) _ (Kd.C_below HR1.out HB3.out) HC1.out HEF1.out)).mono ?_
  rintro e w4 ⟨rfl, hb4⟩
  have HB4 := Aside0.mk (below_then HB3.out HB3.out.size hb4.below)
  clear hb4
  gi_wp2_with fail
  have HD0 := Aside0.mk (show tl_DS w4 w4.heap.size (w4.alloc (.cells #[.slice none 0 0] 46)) [] from tl_DS.new (Below.refl _ _))
  refine wpIn_loop (fun a W => ∃ (k : Nat) (Ds : List Nat) (u8 u9 u28 u29 u30 u31 u32 u33 u34 u35 u36 u37 u38 u39 u40 u41 u42 u43 u44 u45 u46 u47 u48 u49 u50 : Value), a = { tmps := #[.slice A0 l0.length c0, .slice A1 l1.length c1, undef, undef, .slice none 0 0, .int .i64 0, .pointer (some ⟨w4.heap.size, 0, none⟩), undef, u8, u9, .slice A0 l0.length c0, .bool true, .bool false, .bool false, .slice A1 l1.length c1, .bool true, .bool false, .bool false, .bool false, .slice A0 l0.length c0, .int .i64 (tl_tend l0), .slice A1 l1.length c1, .int .i64 (tl_tend l1), .bool false, .bool false, .slice A0 l0.length c0, .int .i64 l0.length, .int .i64 k, u28, u29, u30, u31, u32, u33, u34, u35, u36, u37, u38, u39, u40, u41, u42, u43, u44, u45, u46, u47, u48, u49, u50, undef], defers := Ds.map tl_dfr } ∧ k ≤ l0.length ∧ tl_DS w4 w4.heap.size W ((l0.take k).foldl (tl_stepP l1) []) ∧ tl_Dfs w4.heap.size Ds W)
    (fun a _ => l0.length - (intOf (a.tmps.getD 27 undef)).toNat) ?first ?round
  case first => exact ⟨0, [], _, _, _, _, _, _, _, _, _, _, _, _, _, _, _, _, _, _, _, _, _, _, _, _, _, rfl, Nat.zero_le _, HD0.out, List.nodup_nil, by simp, by simp⟩
  case round =>
    rintro a W ⟨k, Ds, u8, u9, u28, u29, u30, u31, u32, u33, u34, u35, u36, u37, u38, u39, u40, u41, u42, u43, u44, u45, u46, u47, u48, u49, u50, rfl, hk, hds, hdf⟩
    have HDS := Aside0.mk hds
    have HDF := Aside0.mk hdf
    clear hds hdf
    by_cases hlt : k < l0.length
    · have hk1 : (k : Int) < l0.length := by omega
      have hk2 : (0 : Int) ≤ k := by omega
      obtain ⟨ad, rfl, hx0, hx1, hx2⟩ := at_T25 (Kd.C_below HR.out (below_then HB4.out HB4.out.size HDS.out.low)) (k : Int) (by omega) (by omega)
      obtain ⟨x, hx⟩ : ∃ x, rd_T25 l0 ↑k = x := ⟨_, rfl⟩
      rw [hx, Int.toNat_natCast] at hx0 hx1 hx2
      have HX := Aside0.mk hx
      clear hx
      gi_wp2_with fail
      refine ⟨trivial, ?_⟩
      refine (callsIn_wide.2 (tl_within_any _ _ _ _ _ _)).mono ?_
      rintro e w5 ⟨rfl, rfl⟩
      clear hx0 hx1 hx2
      gi_wp2_with fail
      obtain ⟨out, hout⟩ : ∃ out, (l0.take k).foldl (tl_stepP l1) [] = out := ⟨_, rfl⟩
      have HOL := Aside0.mk (show out.length ≤ 40000 by rw [← hout]; exact tl_diff_take_len hl hl1 k)
      rw [hout] at HDS
      have HOUT := Aside0.mk hout
      clear hout
      obtain ⟨Wx, hWx⟩ : ∃ Wx, W.alloc (.cells #[.int .i64 x.f0, .int .i64 x.f1, .int .i64 x.f2] 25) = Wx := ⟨_, rfl⟩
      have hsx : Wx.heap.size = W.heap.size + 1 := by rw [← hWx]; simp
      have hbx0 : Wx.heap[W.heap.size]? = some (.cells #[.int .i64 x.f0, .int .i64 x.f1, .int .i64 x.f2] 25 (0, 0)) := by rw [← hWx]; exact World.alloc_heap_new _ _
      have hbW : Below W.heap.size W Wx := by rw [← hWx]; exact below_alloc (Below.refl _ _) _
      rw [hWx]
      clear hWx
      obtain ⟨W0, hW0⟩ : ∃ W0, tl_three Wx (.slice A1 l1.length c1) (.int .i64 x.f0) (.int .i64 x.f1) = W0 := ⟨_, rfl⟩
      have k0 : W0.heap[W.heap.size + 1]? = some (.cells #[.slice A1 l1.length c1] 23 (0, 0)) := by rw [← hW0, ← hsx]; exact tl_three_0 _ _ _ _
      have k1 : W0.heap[W.heap.size + 1 + 1]? = some (.cells #[.int .i64 x.f0] 3 (0, 0)) := by rw [← hW0, ← hsx]; exact tl_three_1 _ _ _ _
      have k2 : W0.heap[W.heap.size + 1 + 2]? = some (.cells #[.int .i64 x.f1] 3 (0, 0)) := by rw [← hW0, ← hsx]; exact tl_three_2 _ _ _ _
      have hb0 : Below Wx.heap.size Wx W0 := by rw [← hW0]; exact tl_three_below _ _ _ _
      have hbW0 : Below W.heap.size W W0 := below_then hbW hbW.size hb0
      have hbx := (hb0.block _ (by omega)).trans hbx0
      have HDS0 := Aside0.mk (HDS.out.below hbW0)
      have hs3 : W.heap.size + 1 + 2 < W0.heap.size := (Array.getElem?_eq_some_iff.1 k2).1
      have hBW : w4.heap.size < W.heap.size := HDS.out.lt
      have hdl : ∀ D ∈ Ds, D < W.heap.size := fun D hD => (Array.getElem?_eq_some_iff.1 (HDF.out.2.1 D hD)).1
      have HDF0 := Aside0.mk (show ∀ D ∈ Ds, W0.heap[D]? = some (.deferred (some [])) from fun D hD => (hbW0.block D (hdl D hD)).trans (HDF.out.2.1 D hD))
      have hR14 := Kd.C_below HR1.out HB4.out
      rw [show ((Wx.alloc (.cells #[.slice A1 l1.length c1] 23)).alloc (.cells #[.int .i64 x.f0] 3)).alloc (.cells #[.int .i64 x.f1] 3) = W0 from hW0]
      clear hW0 hb0 hbW hbx0
      refine wpIn_rangeFunc_ownH rfl h1 (gf := 56) (lb := #[.pointer (some ⟨W.heap.size + 1, 0, none⟩), .pointer (some ⟨W.heap.size + 1 + 1, 0, none⟩), .pointer (some ⟨W.heap.size + 1 + 2, 0, none⟩)]) rfl trivial (enters_of Try.func56 (by kernel_rfl) rfl)
        (tl_within_stops (n - 1) (by omega) (W.heap.size + 1) (W.heap.size + 1 + 1) (W.heap.size + 1 + 2) A1 c1 l1 x.f0 x.f1 w4 W0 (by omega) (by omega) (by omega) ((blk_cell k0 0).trans rfl) ((blk_cell k1 0).trans rfl) ((blk_cell k2 0).trans rfl) HDS0.out.low hR14 (by omega))
        (fun h k => h.then_ k (fun _ hk => .inl hk)) ?hKb (Below.refl _ _) (fun _ => rfl)
        (fun pre W' => tl_DS w4 w4.heap.size W' (pre.foldl (tl_step1 x.f2) out) ∧ W0.heap.size ≤ W'.heap.size ∧ (∀ k, W.heap.size ≤ k → k ≤ W.heap.size + 1 + 2 → W'.heap[k]? = W0.heap[k]?) ∧ (∀ D ∈ Ds, W'.heap[D]? = some (.deferred (some []))))
        (fun _ _ _ => False)
        ?hI
        (fun _ _ _ _ _ hs _ _ => hs)
        ⟨HDS0.out, Nat.le_refl _, fun _ _ _ => rfl, HDF0.out⟩
        (fun y a' W' => ∃ Bt, W0.heap.size ≤ Bt ∧ W'.heap[Bt]? = some (.cells #[.int .i64 y.f0, .int .i64 y.f1, .int .i64 y.f2] 25 (0, 0)) ∧ a' = { tmps := #[.slice (some ad) l0.length c0, .slice A1 l1.length c1, undef, undef, .slice none 0 0, .int .i64 0, .pointer (some ⟨w4.heap.size, 0, none⟩), undef, .pointer (some ⟨W.heap.size, 0, none⟩), .pointer (some ⟨Bt, 0, none⟩), .slice (some ad) l0.length c0, .bool true, .bool false, .bool false, .slice A1 l1.length c1, .bool true, .bool false, .bool false, .bool false, .slice (some ad) l0.length c0, .int .i64 (tl_tend l0), .slice A1 l1.length c1, .int .i64 (tl_tend l1), .bool false, .bool false, .slice (some ad) l0.length c0, .int .i64 l0.length, .int .i64 k, .bool true, .pointer (some (ad.add (k * 3))), .agg #[.int .i64 x.f0, .int .i64 x.f1, .int .i64 x.f2], .slice A1 l1.length c1, .pointer (some ⟨W.heap.size, 0, none⟩), .int .i64 x.f0, .pointer (some ⟨W.heap.size, 1, none⟩), .int .i64 x.f1, .func (.func 56) #[] #[.pointer (some ⟨W.heap.size + 1, 0, none⟩), .pointer (some ⟨W.heap.size + 1 + 1, 0, none⟩), .pointer (some ⟨W.heap.size + 1 + 2, 0, none⟩)], .agg #[.int .i64 y.f0, .int .i64 y.f1, .int .i64 y.f2], u38, u39, u40, u41, u42, u43, u44, u45, u46, u47, u48, u49, u50, undef], defers := [] })
        ?hAx
        ?assign ?body ?done ?stop
      case hKb =>
        intro X l o o' hl' ho hc _
        exact Kept.of_grown (grownBy_putObj' X l o') (Kept.refl X _) (fun k e => by cases e; exact .inl ⟨by have := HDS0.out.low.size; omega, by omega, by omega, by omega⟩)
      case hI =>
        rintro s X Y row ⟨hs1, hs3', hs4, hs5⟩ hg hr
        exact ⟨hs1.own hg (fun r e => ⟨by have := (hr r e).1; have := HDS0.out.low.size; omega, (hr r e).2⟩), Nat.le_trans hs3' hg.size,
          fun k hk1 hk2 => (hg.block k (by omega) (fun e => by have h1 := (hr k e.symm).1; omega)).trans (hs4 k hk1 hk2),
          fun D hD => (hg.block D (by have := hdl D hD; omega) (fun e => by have h1 := (hr D e.symm).1; have := hdl D hD; omega)).trans (hs5 D hD)⟩
      case hAx =>
        rintro y a' _ X Y row ⟨Bt, h1, h2, h3⟩ hg hr
        refine ⟨Bt, h1, (hg.block Bt (Array.getElem?_eq_some_iff.1 h2).1 (fun e => ?_)).trans h2, h3⟩
        obtain ⟨o, ho, hc⟩ := (hr Bt e.symm).2
        rw [h2] at ho
        cases ho
        cases hc
      case assign =>
        rintro l pre y X K ⟨hS1, hz1, hk1', hd1⟩ hK
        have hsz1 : ∀ k, k ≤ W.heap.size + 1 + 2 → k < X.heap.size := fun k hk => by omega
        have HS1 := Aside0.mk hsz1
        have HK1 := Aside0.mk hk1'
        have HD1 := Aside0.mk hd1
        have HSS := Aside0.mk hS1
        have HDL := Aside0.mk hdl
        clear hsz1 hk1' hd1 hS1 hdl
        gi_wp2
        exact hK _ _ ((KeepsOthers.alloc _ _).from _) (Kept.alloc (Kept.refl _ _) _) ⟨HSS.out.below (below_alloc (Below.refl _ _) _), by simp; omega, fun k h2 h3 => (Below.heap_alloc X _ k (HS1.out k h3)).trans (HK1.out k h2 h3), fun D hD => (Below.heap_alloc X _ D (HS1.out D (by have := HDL.out D hD; omega))).trans (HD1.out D hD)⟩ ⟨X.heap.size, hz1, World.alloc_heap_new _ _, rfl⟩
      case body =>
        rintro l pre y a' X hl' ⟨r, hr⟩ ⟨hS1, hz1, hk1', hd1⟩ ⟨Bt, hBt, bX, rfl⟩ hlt'
        have x0 := (blk_cell bX 0).trans rfl
        have x1 := (blk_cell bX 1).trans rfl
        have x2 := (blk_cell bX 2).trans rfl
        have hbs := (hk1' W.heap.size (by omega) (by omega)).trans hbx
        have s2 := (blk_cell hbs 2).trans rfl
        have h1' : 1 ≤ n - 1 - 1 := by omega
        have HK1 := Aside0.mk hk1'
        have HD1 := Aside0.mk hd1
        have HSS := Aside0.mk hS1
        have HDL := Aside0.mk hdl
        have HLT := Aside0.mk hlt'
        have HBX := Aside0.mk hbx
        have HZ0 := Aside0.mk k0
        have HZ1 := Aside0.mk k1
        have HZ2 := Aside0.mk k2
        clear hk1' hd1 hS1 hdl hr bX hbs hlt' hbx k0 k1 k2
        by_cases hq : y.f2 = x.f2
        · have hq1 : (y.f2 == x.f2) = true := by simpa using hq
          have HQ := Aside0.mk hq
          clear hq
          gi_wp2
          exact ⟨KeepsFrom.refl _ _, Kept.refl _ _, by rw [List.foldl_append]; simp only [List.foldl_cons, List.foldl_nil]; unfold tl_step1; rw [if_pos HQ.out]; exact HSS.out, hz1, HK1.out, HD1.out⟩
        · have hq1 : (y.f2 == x.f2) = false := by simpa using hq
          have HQ := Aside0.mk hq
          clear hq
          obtain ⟨u, hub, hur, hlow, hbb⟩ := HSS.out
          obtain ⟨Au, cu, rfl⟩ := Kd.R_slice hur
          have hcu := (blk_cell hub 0).trans rfl
          have HUB := Aside0.mk hub
          have HUR := Aside0.mk hur
          have HLOW := Aside0.mk hlow
          clear hub hur hlow
          have hlen : (pre.foldl (tl_step1 x.f2) out).length < 100000 := by have h2 := tl_steps_len x.f2 pre out; have h3 := HOL.out; have h4 := HLT.out; omega
          have HLEN := Aside0.mk hlen
          have HBB := Aside0.mk hbb
          clear hlen hbb
          gi_wp2_with fail
          refine ⟨trivial, ?_⟩
          refine (CallsIn.inRound l (callsIn_wide.2 (tl_dext_any (fun k => k ≠ w4.heap.size ∧ ∃ cells, X.heap[k]? = some (.cells cells 45 (0, 0))) _ _ _ _ w4 X HLOW.out (tl_R_typedD HUR.out) HLEN.out))).mono ?_
          rintro e w' ⟨v0, rfl, hr2, hB2, hkp⟩
          obtain ⟨Av, cv, rfl⟩ := Kd.R_slice hr2
          have hk2 : w'.heap[w4.heap.size]? = some (.cells #[.slice Au (pre.foldl (tl_step1 x.f2) out).length cu] 46 (0, 0)) := (hkp.2 _ (Array.getElem?_eq_some_iff.1 HUB.out).1 (fun h => h.1 rfl)).trans HUB.out
          have hc2 := (blk_cell hk2 0).trans rfl
          have hz2 := blk_frozen hk2 0
          have HK2 := Aside0.mk hk2
          have HR2 := Aside0.mk hr2
          have HB2' := Aside0.mk hB2
          have HKP := Aside0.mk hkp
          clear hk2 hr2 hB2 hkp hcu
          gi_wp2
          obtain ⟨X', hX'⟩ : ∃ X', w'.setCell ⟨w4.heap.size, 0, none⟩ (.slice Av (tl_addT (pre.foldl (tl_step1 x.f2) out) ⟨y.f0, y.f1⟩).length cv) = X' := ⟨_, rfl⟩
          have hkt : ∀ k o, X.heap[k]? = some o → k ≠ w4.heap.size → (∀ cells, o ≠ .cells cells 45 (0, 0)) → X'.heap[k]? = some o := fun k o hk hnB ho => by
            rw [← hX']
            exact (Below.heap_setCell w' _ _ k hnB).trans ((HKP.out.2 k (Array.getElem?_eq_some_iff.1 hk).1 (fun h => by obtain ⟨_, cells, hc⟩ := h; rw [hk] at hc; exact ho cells (Option.some.inj hc))).trans hk)
          have hDS' : tl_DS w4 w4.heap.size X' (tl_addT (pre.foldl (tl_step1 x.f2) out) ⟨y.f0, y.f1⟩) := by
            rw [← hX']
            exact ⟨_, by simpa using blk_set HK2.out 0 _, Kd.R_far (Kd.R_mono HR2.out (fun k hk => hk.elim (fun h => h.1) (fun h e => absurd ((Array.getElem?_eq_some_iff.1 HUB.out).1) (by subst e; exact Nat.not_lt.2 h)))) (fun k hk => hk) _, below_set HB2'.out HBB.out, HBB.out⟩
          have hsX : X.heap.size ≤ X'.heap.size := by rw [← hX']; simpa using HKP.out.1
          rw [hX']
          clear hX'
          have hbx4 : ∀ k, W.heap.size ≤ k → k ≤ W.heap.size + 1 + 2 → X'.heap[k]? = W0.heap[k]? := fun k h2 h3 => by
            have h4 := HK1.out k h2 h3
            have h5 : k = W.heap.size ∨ k = W.heap.size + 1 ∨ k = W.heap.size + 1 + 1 ∨ k = W.heap.size + 1 + 2 := by omega
            rcases h5 with h5 | h5 | h5 | h5
            · rw [h5] at h4 ⊢; rw [HBX.out] at h4 ⊢; exact hkt _ _ h4 (by omega) (fun cells e => by cases e)
            · rw [h5] at h4 ⊢; rw [HZ0.out] at h4 ⊢; exact hkt _ _ h4 (by omega) (fun cells e => by cases e)
            · rw [h5] at h4 ⊢; rw [HZ1.out] at h4 ⊢; exact hkt _ _ h4 (by omega) (fun cells e => by cases e)
            · rw [h5] at h4 ⊢; rw [HZ2.out] at h4 ⊢; exact hkt _ _ h4 (by omega) (fun cells e => by cases e)
          refine ⟨⟨hsX, fun k o _ hk ho => hkt k o hk (fun e => ?_) (fun cells e => ?_)⟩, ⟨hsX, fun i hi hn => ?_⟩, by rw [List.foldl_append]; simp only [List.foldl_cons, List.foldl_nil]; rw [show tl_step1 x.f2 (pre.foldl (tl_step1 x.f2) out) y = tl_addT (pre.foldl (tl_step1 x.f2) out) ⟨y.f0, y.f1⟩ from if_neg HQ.out]; exact hDS', Nat.le_trans hz1 hsX, hbx4, fun D hD => hkt D _ (HD1.out D hD) (fun e => ?_) (fun cells e => by cases e)⟩
          · subst e
            rw [HUB.out] at hk
            cases hk
            cases ho
          · subst e
            cases ho
          · by_cases hib : i < w4.heap.size
            · exact (hDS'.low.block i hib).trans (HLOW.out.block i hib).symm
            · have h7 : W.heap.size ≤ i ∧ i ≤ W.heap.size + 1 + 2 := by
                unfold tl_SS at hn
                omega
              rw [hbx4 i h7.1 h7.2, HK1.out i h7.1 h7.2]
          · subst e
            have h8 := HD1.out _ hD
            rw [HUB.out] at h8
            cases h8
      case done =>
        rintro D ys X hD rfl ⟨hS1, hz1, hk1', hd1⟩ hK
        have HSS := Aside0.mk hS1
        have HD1 := Aside0.mk hd1
        have HDL := Aside0.mk hdl
        have HKK := Aside0.mk hK
        clear hS1 hk1' hd1 hdl hK hbx k0 k1 k2
        gi_wp2
        have e1 : (l0.take (k + 1)).foldl (tl_stepP l1) [] = (tl_clip l1 x.f0 x.f1).foldl (tl_step1 x.f2) out := by
          have e : l0[k] = x := by rw [← HX.out]; simp [rd_T25, hlt]
          rw [List.take_succ_eq_append_getElem hlt, List.foldl_append, HOUT.out, e]
          rfl
        refine ⟨⟨k + 1, D :: Ds, _, _, _, _, _, _, _, _, _, _, _, _, _, _, _, _, _, _, _, _, _, _, _, _, _, rfl, by omega, by rw [e1]; exact HSS.out, List.nodup_cons.2 ⟨fun hD' => by have := HDL.out D hD'; omega, HDF.out.1⟩, ?_, ?_⟩, ?_⟩
        · intro D' hD'
          rcases List.mem_cons.1 hD' with rfl | hD'
          · exact HKK.out
          · exact HD1.out D' hD'
        · intro D' hD'
          rcases List.mem_cons.1 hD' with rfl | hD'
          · omega
          · exact HDF.out.2.2 D' hD'
        · simp [intOf]
          omega
      case stop =>
        intro D c pre X _ _ h _
        exact h.elim
    · obtain rfl : k = l0.length := by omega
      rw [List.take_length] at HDS
      obtain ⟨u, hub, hur, hlow, hbb⟩ := HDS.out
      obtain ⟨Au, cu, rfl⟩ := Kd.R_slice hur
      have hcu := (blk_cell hub 0).trans rfl
      have HUR := Aside0.mk hur
      have HLOW := Aside0.mk hlow
      clear hub hur hlow
      gi_wp2
      refine tl_leaves_collected Ds W HDF.out (fun w' h1 h2 h3 h4 h5 => ⟨_, results_tmp2 rfl _ _ _, _, rfl, Kd.R_lower (Kd.R_mono (Kd.R_step (Kd.R_bound HUR.out) (fun k hk _ => h5 k (fun hD => ?_))) (fun _ _ => trivial)) HB4.out.size, below_then HB4.out HB4.out.size ⟨?_, ?_, ?_, ?_, fun k hk => ?_⟩⟩)
      · obtain ⟨_, _, _, q, _, cells, hc⟩ := hk
        have h6 := HDF.out.2.1 k hD
        rw [hc] at h6
        cases h6
      · exact h1.trans HLOW.out.os
      · exact h2.trans HLOW.out.tape
      · exact h3.trans HLOW.out.output
      · rw [h4]; exact HLOW.out.size
      · exact (h5 k (fun hD => absurd (HDF.out.2.2 k hD) (by omega))).trans (HLOW.out.block k hk)

set_option maxRecDepth 100000 in
set_option maxHeartbeats 1000000 in
theorem tl_diff_no (A0 : Option Addr) (c0 : Nat) (l0 : List S25) (A1 : Option Addr) (c1 : Nat) (l1 : List S25) (w : World) (hr0 : Kd.C k25 w A0 l0.length l0) (hc0 : l0.length ≤ c0) (hr1 : Kd.C k25 w A1 l1.length l1) (hc1 : l1.length ≤ c1)
    (h : ¬ (tl_validB l0 = true ∧ tl_validB l1 = true ∧ tl_tend l0 = tl_tend l1)) :
    Calls Try.prog 32 #[.slice A0 l0.length c0, .slice A1 l1.length c1] w fun e w' => e = .returned (.tuple #[.slice none 0 0, .int .i64 150]) ∧ Below w.heap.size w w' := by
  have hn := hr0.2.1
  have hn1 := hr1.2.1
  have HR := Aside0.mk hr0
  have HC := Aside0.mk hc0
  have HR1 := Aside0.mk hr1
  have HC1 := Aside0.mk hc1
  have HVF := Aside0.mk (tl_valid_f l0 hn (k := l0.length + 1) (by omega))
  have HVF1 := Aside0.mk (tl_valid_f l1 hn1 (k := l1.length + 1) (by omega))
  have HEF := Aside0.mk (tl_end_f l0 hn)
  have HEF1 := Aside0.mk (tl_end_f l1 hn1)
  have H := Aside0.mk h
  clear hr0 hc0 hr1 hc1 hn hn1 h
  by_cases hv : tl_validB l0 = true
  · rw [hv] at HVF H
    by_cases hv1 : tl_validB l1 = true
    · rw [hv1] at HVF1 H
      clear hv hv1
      have ht : (tl_tend l0 != tl_tend l1) = true := by have := H.out; simpa using this
      clear H
      go_enter Try.func32, Try.ntmps32
      go_wp2_with fail
      refine (timeline_Valid.calls _ _ _ l0 true _ HR.out HC.out HVF.out).mono ?_
      rintro e w1 ⟨rfl, hb1⟩
      have HB1 := Aside0.mk hb1
      clear hb1
      go_wp2_with fail
      refine (timeline_Valid.calls _ _ _ l1 true _ (Kd.C_below HR1.out HB1.out) HC1.out HVF1.out).mono ?_
      rintro e w2 ⟨rfl, hb2⟩
      have HB2 := Aside0.mk (below_then HB1.out HB1.out.size hb2)
      clear hb2
      go_wp2_with fail
      refine (timeline_end.calls _ _ l0 (tl_tend l0) _ (Kd.C_below HR.out HB2.out) HC.out HEF.out).mono ?_
      rintro e w3 ⟨rfl, hb3⟩
      have HB3 := Aside0.mk (below_then HB2.out HB2.out.size hb3.below)
      clear hb3
      go_wp2_with fail
      refine (timeline_end.calls _ _ l1 (tl_tend l1) _ (Kd.C_below HR1.out HB3.out) HC1.out HEF1.out).mono ?_
      rintro e w4 ⟨rfl, hb4⟩
      have HB4 := Aside0.mk (below_then HB3.out HB3.out.size hb4.below)
      clear hb4
      go_wp2
      go_ret2
      exact ⟨rfl, HB4.out⟩
    · rw [show tl_validB l1 = false by simpa using hv1] at HVF1
      clear hv hv1
      go_enter Try.func32, Try.ntmps32
      go_wp2_with fail
      refine (timeline_Valid.calls _ _ _ l0 true _ HR.out HC.out HVF.out).mono ?_
      rintro e w1 ⟨rfl, hb1⟩
      have HB1 := Aside0.mk hb1
      clear hb1
      go_wp2_with fail
      refine (timeline_Valid.calls _ _ _ l1 false _ (Kd.C_below HR1.out HB1.out) HC1.out HVF1.out).mono ?_
      rintro e w2 ⟨rfl, hb2⟩
      have HB2 := Aside0.mk (below_then HB1.out HB1.out.size hb2)
      clear hb2
      go_wp2
      go_ret2
      exact ⟨rfl, HB2.out⟩
  · rw [show tl_validB l0 = false by simpa using hv] at HVF
    clear hv
    go_enter Try.func32, Try.ntmps32
    go_wp2_with fail
    refine (timeline_Valid.calls _ _ _ l0 false _ HR.out HC.out HVF.out).mono ?_
    rintro e w1 ⟨rfl, hb1⟩
    have HB1 := Aside0.mk hb1
    clear hb1
    go_wp2
    go_ret2
    exact ⟨rfl, HB1.out⟩
theorem timeline_Diff.calls (A0 : Option Addr) (c0 : Nat) (l0 : List S25) (A1 : Option Addr) (c1 : Nat) (l1 : List S25) (r1 : List S45) (r2 : Int) (w : World) (hr0 : Kd.C k25 w A0 l0.length l0) (hc0 : l0.length ≤ c0) (hr1 : Kd.C k25 w A1 l1.length l1) (hc1 : l1.length ≤ c1) (h : timeline_Diff.f l0 l1 = some (r1, r2)) :
    Calls Try.prog 32 #[.slice A0 l0.length c0, .slice A1 l1.length c1] w fun e w' => ∃ v0_ : Value, e = .returned (.tuple #[v0_, .int .i64 r2]) ∧ Kd.R k45 45 w' w.heap.size (fun _ => True) v0_ r1 ∧ Below w.heap.size w w' := by
  unfold timeline_Diff.f at h
  replace h := Option.some.inj h
  by_cases hc : tl_diffB l0 l1 = true
  · rw [if_pos hc] at h
    simp only [tl_diffB, Bool.and_eq_true, decide_eq_true_eq] at hc
    obtain ⟨rfl, rfl⟩ := Prod.mk.inj h
    exact callsIn_wide.1 (tl_diff_in 6 (Nat.le_refl _) A0 c0 l0 A1 c1 l1 w hr0 hc0 hr1 hc1 hc.1.1 hc.1.2 hc.2)
  · rw [if_neg hc] at h
    obtain ⟨rfl, rfl⟩ := Prod.mk.inj h
    refine (tl_diff_no A0 c0 l0 A1 c1 l1 w hr0 hc0 hr1 hc1 (fun hh => hc (by simp [tl_diffB, hh]))).mono ?_
    rintro e w' ⟨rfl, hb⟩
    exact ⟨_, rfl, Kd.R_nil _ _ _ _ _, hb⟩

end Go.Proofs.Ytbhngbjopfjacaa.PS15
