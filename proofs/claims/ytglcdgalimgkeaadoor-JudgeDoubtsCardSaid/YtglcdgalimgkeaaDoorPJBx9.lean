-- PRINTED by print.py (a twelfth state) out of the translation. Not trusted: Lean checks it.
import Derived.Test.YtglcdgalimgkeaaDoorPJBx0
import Derived.Test.YtglcdgalimgkeaaDoorPJBx6
import Derived.Test.YtglcdgalimgkeaaDoorPJBx7
import Derived.Test.YtglcdgalimgkeaaDoorPJBx8
import Derived.RangeFuncNested
import Derived.RangeFuncBound
import Derived.RangeFuncCalls
import Derived.RangeFuncLeaves
import Derived.RangeFuncBox
import Derived.Shelf.Abstract
import Derived.Shelf.RegionOpen
import Derived.OwnWalkIn
import Derived.TacticsInMore
import Derived.LoopNIn
import Derived.LoopIn
import Derived.OneCell
import Derived.BigQuiet
import Derived.Deep.RegionWith
import Derived.Deep.RegionHeld3
import Derived.IntWalk
namespace Go.Proofs.YtglcdgalimgkeaaDoor.PJB
open Go.RowKit Go.Proofs.YtglcdgalimgkeaaDoorW.PrintWords Go.Proofs.YtglcdgalimgkeaaDoorW.PrintLast Go.Proofs.YtglcdgalimgkeaaDoorW.PrintMore
attribute [local go_sem] max2_int min2_int max_two min_two max_three min_three max_four min_four   -- for this text's walks alone
set_option linter.unusedVariables false
set_option linter.unusedSimpArgs false

attribute [local go_sem] Oper.semAt_some
open Go.Shelf
-- given by hand: tl3


def tl_validF : List S74 → Int → Int → Bool
 | [], _, _ => true
 | s :: l, t, o => decide (s.f0 = t) && decide (t < s.f1) && decide (s.f1 ≤ 10000000) && decide (0 ≤ s.f2) && decide (s.f2 ≤ 2999) && !decide (s.f2 = o) && tl_validF l s.f1 s.f2
def tl_validB (l : List S74) : Bool := tl_validF l 0 (-1) && decide (l.length ≤ 200)
def tl_tend (l : List S74) : Int := match l.getLast? with
 | none => 0
 | some s => s.f1
def tl_insideB (l : List S74) (a b : Int) : Bool := decide (0 ≤ a) && decide (a < b) && decide (b ≤ tl_tend l)
def tl_ownerB (c : Int) : Bool := decide (0 ≤ c) && decide (c ≤ 2999)
def tl_doneF (xs : List S74) : List S74 × Int := if 200 < xs.length then ([], 150) else (xs, 0)
def tl_putP (l : List S74) (a b c : Int) : List S74 := tl_addAll (tl_addS (tl_addAll [] (tl_clip l 0 a)) ⟨a, b, c⟩) (tl_clip l b (tl_tend l))
def timeline_Put.f (l : List S74) (a b c : Int) : Option (List S74 × Int) := some (if (tl_validB l && tl_insideB l a b && tl_ownerB c) = true then tl_doneF (tl_putP l a b c) else ([], 150))

theorem tl_owner_f (c : Int) : timeline_isOwner.f c = some (tl_ownerB c) := by
 unfold timeline_isOwner.f tl_ownerB
 by_cases h : 0 ≤ c
 ·rw [if_pos (by omega)]; simp [h]
 ·rw [if_neg (by omega)]; simp [h]
theorem tl_wrap_dec {n : Nat} (h0 : 0 < n) (h : n ≤ 9223372036854775807) : wrap64 ((n : Int) - 1) = ((n - 1 : Nat) : Int) := by
 unfold wrap64; omega
theorem tl_end_f (l : List S74) (h : l.length ≤ 9223372036854775807) : timeline_end.f l = some (tl_tend l) := by
 unfold timeline_end.f tl_tend
 cases hl : l.getLast? with
 | none => 
  have : l = [] := by simpa using hl
  subst this
  rfl
 | some s =>
  have hne : l ≠ [] := by rintro rfl; simp at hl
  have hpos : 0 < l.length := List.length_pos_iff.2 hne
  rw [if_neg (by omega), tl_wrap_dec hpos h, if_pos (by omega), if_pos (by omega)]
  rw [List.getLast?_eq_getElem?] at hl
  simp [rd_T74, hl]
theorem tl_inside_f (l : List S74) (a b : Int) (h : l.length ≤ 9223372036854775807) : timeline_isInside.f l a b = some (tl_insideB l a b) := by
 unfold timeline_isInside.f tl_insideB
 by_cases h1 : 0 ≤ a
 ·rw [if_pos (by omega)]
  by_cases h2 : a < b
  ·rw [if_pos h2, tl_end_f l h]; simp [h1, h2]
  ·rw [if_neg h2]; simp [h2]
 ·rw [if_neg (by omega)]; simp [h1]
theorem tl_wrap_up {i : Nat} {n : Nat} (h : i < n) (hn : n ≤ 9223372036854775807) : wrap64 ((i : Int) + 1) = ((i + 1 : Nat) : Int) := by
 unfold wrap64; omega
theorem tl_valid_l0 (l : List S74) (hn : l.length ≤ 9223372036854775807) (d : Nat) : ∀ (k i : Nat) (t o : Int), i + d = l.length → d < k → timeline_Valid.l0 k l t o l (l.length : Int) (i : Int) = some (tl_validF (l.drop i) t o && decide (l.length ≤ 200)) := by
 induction d with
 | zero =>
  intro k i t o hi hk
  obtain ⟨k, rfl⟩ : ∃ m, k = m + 1 := ⟨k - 1, by omega⟩
  simp only [timeline_Valid.l0]
  rw [if_neg (by omega), List.drop_eq_nil_of_le (by omega)]
  simp [tl_validF]
  omega
 | succ d ih =>
  intro k i t o hi hk
  obtain ⟨k, rfl⟩ : ∃ m, k = m + 1 := ⟨k - 1, by omega⟩
  have hlt : i < l.length := by omega
  have hr : rd_T74 l (i : Int) = l[i] := by simp [rd_T74, hlt]
  simp only [timeline_Valid.l0]
  rw [if_pos (by omega), if_pos (by omega), if_pos (by omega), hr, tl_wrap_up hlt hn, List.drop_eq_getElem_cons hlt, tl_owner_f]
  simp only [tl_validF, Option.bind_some, tl_ownerB]
  rw [ih k (i + 1) _ _ (by omega) (by omega)]
  by_cases h1 : l[i].f0 = t
  ·rw [if_pos h1]
   by_cases h2 : l[i].f1 ≤ t
   ·rw [if_pos h2]; simp; omega
   ·rw [if_neg h2]
    by_cases h3 : l[i].f1 > 10000000
    ·rw [if_pos h3]; simp; omega
    ·rw [if_neg h3]
     by_cases h4 : (decide (0 ≤ l[i].f2) && decide (l[i].f2 ≤ 2999)) = true
     ·rw [if_pos h4]
      by_cases h5 : l[i].f2 = o
      ·rw [if_pos h5]; simp [h5]
      ·rw [if_neg h5]
       simp only [Bool.and_eq_true, decide_eq_true_eq] at h4
       simp [h1, h4.1, h4.2, h5, Int.not_le.1 h2, Int.not_lt.1 h3]
     ·rw [if_neg h4]
      simp at h4
      simp
      omega
  ·rw [if_neg h1]; simp [h1]
theorem tl_valid_f (l : List S74) (hn : l.length ≤ 9223372036854775807) {k : Nat} (hk : l.length < k) : timeline_Valid.f k l = some (tl_validB l) := by
 have h := tl_valid_l0 l hn l.length k 0 0 (-1) (by omega) hk
 simpa [timeline_Valid.f, tl_validB] using h



theorem tl_each_any (B B0 B1 B2 : Nat) (A : Option Addr) (cap : Nat) (xs zs : List S74) (lo hi : Int) (w0 w : World) (hS : tl_BS w0 B w zs) (hne : B ≠ B0 ∧ B ≠ B1 ∧ B ≠ B2)
  (hc0 : w.heap[B0]? = some (.cells #[.slice A xs.length cap] 28 (0, 0))) (hc1 : w.heap[B1]? = some (.cells #[.int .i64 lo] 3 (0, 0))) (hc2 : w.heap[B2]? = some (.cells #[.int .i64 hi] 3 (0, 0))) (hC : Kd.C k74 w0 A xs.length xs) (hlen : xs.length + zs.length < 100000) :
  Calls Tryd.prog 70 #[.func (.func 90) #[] #[.pointer (some ⟨B0, 0, none⟩), .pointer (some ⟨B1, 0, none⟩), .pointer (some ⟨B2, 0, none⟩)], .func (.func 71) #[.pointer (some ⟨B, 0, none⟩)] #[]] w fun e w' => e = .returned (.tuple #[]) ∧ tl_BS w0 B w' (tl_addAll zs (tl_clip xs lo hi)) :=
 callsIn_wide.1 (tl_each_in 6 (Nat.le_refl _) B B0 B1 B2 A cap xs zs lo hi w0 w hS hne (Array.getElem?_eq_some_iff.1 hc0).1 (Array.getElem?_eq_some_iff.1 hc1).1 (Array.getElem?_eq_some_iff.1 hc2).1 ((blk_cell hc0 0).trans rfl) ((blk_cell hc1 0).trans rfl) ((blk_cell hc2 0).trans rfl)
  (by rintro k (rfl | rfl | rfl) cells h <;> simp_all) hC hlen)

set_option maxRecDepth 100000 in
set_option maxHeartbeats 1000000 in
theorem tl_done_yes (B : Nat) (xs : List S74) (w0 w : World) (h : tl_BS w0 B w xs) (hl : xs.length ≤ 200) :
  Calls Tryd.prog 73 #[.pointer (some ⟨B, 0, none⟩)] w fun e w' => ∃ v, e = .returned (.tuple #[v, .int .i64 0]) ∧ Kd.R k74 74 w' w0.heap.size (fun _ => True) v xs ∧ Below w0.heap.size w0 w' := by
 obtain ⟨u, hb, ho, hB, hBB⟩ := h
 obtain ⟨A, c, rfl⟩ := Kd.R_slice ho
 have hc := (blk_cell hb 0).trans rfl
 have ht : decide (200 < (xs.length : Int)) = false := by simp; omega
 have HO := Aside0.mk ho
 have HB := Aside0.mk hB
 clear ho hB hb hBB hl
 go_enter Tryd.func73, Tryd.ntmps73
 go_wp2
 all_goals (try go_quiet (fail))
 all_goals (try go_wp2)
 go_ret2
 exact ⟨_, rfl, Kd.R_mono HO.out (fun _ _ => trivial), HB.out⟩
set_option maxRecDepth 100000 in
set_option maxHeartbeats 1000000 in
theorem tl_done_no (B : Nat) (xs : List S74) (w0 w : World) (h : tl_BS w0 B w xs) (hl : 200 < xs.length) :
  Calls Tryd.prog 73 #[.pointer (some ⟨B, 0, none⟩)] w fun e w' => ∃ v, e = .returned (.tuple #[v, .int .i64 150]) ∧ Kd.R k74 74 w' w0.heap.size (fun _ => True) v ([] : List S74) ∧ Below w0.heap.size w0 w' := by
 obtain ⟨u, hb, ho, hB, hBB⟩ := h
 obtain ⟨A, c, rfl⟩ := Kd.R_slice ho
 have hc := (blk_cell hb 0).trans rfl
 have ht : decide (200 < (xs.length : Int)) = true := by simp; omega
 have HO := Aside0.mk ho
 have HB := Aside0.mk hB
 clear ho hB hb hBB hl
 go_enter Tryd.func73, Tryd.ntmps73
 go_wp2
 go_ret2
 exact ⟨_, rfl, Kd.R_nil _ _ _ _ _, HB.out⟩
theorem tl_done_any (B : Nat) (xs : List S74) (w0 w : World) (h : tl_BS w0 B w xs) :
  Calls Tryd.prog 73 #[.pointer (some ⟨B, 0, none⟩)] w fun e w' => ∃ v, e = .returned (.tuple #[v, .int .i64 (tl_doneF xs).2]) ∧ Kd.R k74 74 w' w0.heap.size (fun _ => True) v (tl_doneF xs).1 ∧ Below w0.heap.size w0 w' := by
 unfold tl_doneF
 by_cases hl : 200 < xs.length
 ·rw [if_pos hl]; exact tl_done_no B xs w0 w h hl
 ·rw [if_neg hl]; exact tl_done_yes B xs w0 w h (by omega)
theorem tl_addAll_clip_len (l zs : List S74) (lo hi : Int) : (tl_addAll zs (tl_clip l lo hi)).length ≤ zs.length + l.length := Nat.le_trans (tl_addAll_len _ _) (Nat.add_le_add_left (tl_clip_len _ _ _) _)
theorem tl_putP_len (l : List S74) (a b c : Int) : (tl_addAll [] (tl_clip l 0 a)).length ≤ l.length ∧ (tl_addS (tl_addAll [] (tl_clip l 0 a)) ⟨a, b, c⟩).length ≤ l.length + 1 := by
 have h1 := tl_addAll_clip_len l [] 0 a
 have h2 := tl_addS_len (tl_addAll [] (tl_clip l 0 a)) ⟨a, b, c⟩
 simp at h1
 omega

theorem tl_BS.low {w0 W : World} {B : Nat} {xs : List S74} (h : tl_BS w0 B W xs) : Below w0.heap.size w0 W := by obtain ⟨_, _, _, h, _⟩ := h; exact h
theorem tl_BS.lt {w0 W : World} {B : Nat} {xs : List S74} (h : tl_BS w0 B W xs) : B < W.heap.size := by obtain ⟨_, h, _⟩ := h; exact (Array.getElem?_eq_some_iff.1 h).1
theorem tl_BS.new {w W : World} (h : Below w.heap.size w W) : tl_BS w W.heap.size (W.alloc (.cells #[.slice none 0 0] 131)) [] :=
 ⟨_, World.alloc_heap_new _ _, Kd.R_nil _ _ _ _ _, below_alloc h _, h.size⟩
def tl_three (W : World) (x y z : Value) : World := ((W.alloc (.cells #[x] 28)).alloc (.cells #[y] 3)).alloc (.cells #[z] 3)
theorem tl_three_below (W : World) (x y z : Value) : Below W.heap.size W (tl_three W x y z) := below_alloc (below_alloc (below_alloc (Below.refl _ _) _) _) _
theorem tl_three_bs {w W : World} {B : Nat} {xs : List S74} {x y z : Value} (h : tl_BS w B W xs) : tl_BS w B (tl_three W x y z) xs := h.below (tl_three_below W x y z)
theorem tl_three_0 (W : World) (x y z : Value) : (tl_three W x y z).heap[W.heap.size]? = some (.cells #[x] 28 (0, 0)) :=
 ((below_alloc (below_alloc (Below.refl _ _) _) _ : Below (W.alloc (.cells #[x] 28)).heap.size _ (tl_three W x y z)).block _ (by simp)).trans (World.alloc_heap_new _ _)
theorem tl_three_1 (W : World) (x y z : Value) : (tl_three W x y z).heap[W.heap.size + 1]? = some (.cells #[y] 3 (0, 0)) := by
 have h1 := World.alloc_heap_new (W.alloc (.cells #[x] 28)) (.cells #[y] 3)
 rw [World.size_alloc] at h1
 exact ((below_alloc (Below.refl _ _) _ : Below ((W.alloc (.cells #[x] 28)).alloc (.cells #[y] 3)).heap.size _ (tl_three W x y z)).block (W.heap.size + 1) (by simp)).trans h1
theorem tl_three_2 (W : World) (x y z : Value) : (tl_three W x y z).heap[W.heap.size + 2]? = some (.cells #[z] 3 (0, 0)) := by
 have h1 := World.alloc_heap_new ((W.alloc (.cells #[x] 28)).alloc (.cells #[y] 3)) (.cells #[z] 3)
 rw [World.size_alloc, World.size_alloc] at h1
 exact h1
set_option maxRecDepth 100000 in
set_option maxHeartbeats 1000000 in
theorem tl_put_yes (A0 : Option Addr) (c0 : Nat) (l0 : List S74) (a b c : Int) (w : World) (hr0 : Kd.C k74 w A0 l0.length l0) (hc0 : l0.length ≤ c0) (hv : tl_validB l0 = true) (hi : tl_insideB l0 a b = true) (ho : tl_ownerB c = true) :
  Calls Tryd.prog 37 #[.slice A0 l0.length c0, .agg #[.int .i64 a, .int .i64 b, .int .i64 c]] w fun e w' => ∃ v : Value, e = .returned (.tuple #[v, .int .i64 (tl_doneF (tl_putP l0 a b c)).2]) ∧ Kd.R k74 74 w' w.heap.size (fun _ => True) v (tl_doneF (tl_putP l0 a b c)).1 ∧ Below w.heap.size w w' := by
 have hn := hr0.2.1
 have hl : l0.length ≤ 200 := by unfold tl_validB at hv; simp at hv; exact hv.2
 have hvf := (tl_valid_f l0 hn (k := l0.length + 1) (by omega)).trans (by rw [hv])
 have hif := (tl_inside_f l0 a b hn).trans (by rw [hi])
 have hof := (tl_owner_f c).trans (by rw [ho])
 have hef := tl_end_f l0 hn
 have hlen := tl_putP_len l0 a b c
 have HR := Aside0.mk hr0
 have HC := Aside0.mk hc0
 have HVF := Aside0.mk hvf
 have HIF := Aside0.mk hif
 have HOF := Aside0.mk hof
 have HEF := Aside0.mk hef
 have HL := Aside0.mk hl
 have HLEN := Aside0.mk hlen
 have hh := HR.out
 clear hr0 hc0 hvf hif hof hef hl hlen hv hi ho hn hh
 go_enter Tryd.func37, Tryd.ntmps37
 go_wp2_with fail
 refine (timeline_Valid.calls _ _ _ l0 true _ (Kd.C_below HR.out (below_alloc (Below.refl _ _) _)) HC.out HVF.out).mono ?_
 rintro e w1 ⟨rfl, hb1⟩
 have hb1' := below_then (below_alloc (Below.refl w.heap.size w) _) (by simp) hb1
 have hbx : w1.heap[w.heap.size]? = some (.cells #[.int .i64 a, .int .i64 b, .int .i64 c] 74 (0, 0)) := (hb1.block w.heap.size (by simp)).trans (World.alloc_heap_new _ _)
 have x0 := (blk_cell hbx 0).trans rfl
 have x1 := (blk_cell hbx 1).trans rfl
 have x2 := (blk_cell hbx 2).trans rfl
 have HX := Aside0.mk hbx
 have HB := Aside0.mk hb1'
 clear hb1 hb1' hbx
 go_wp2_with fail
 refine (timeline_isInside.calls _ _ l0 a b true _ (Kd.C_below HR.out HB.out) HC.out HIF.out).mono ?_
 rintro e w2 ⟨rfl, hb2⟩
 have y0 := pw_cell_below hb2.below x0
 have y1 := pw_cell_below hb2.below x1
 have y2 := pw_cell_below hb2.below x2
 have HB2 := Aside0.mk (below_then HB.out HB.out.size hb2.below)
 have HX2 := Aside0.mk ((hb2.below.block _ (Array.getElem?_eq_some_iff.1 HX.out).1).trans HX.out)
 clear hb2 x0 x1 x2
 go_wp2_with fail
 refine (timeline_isOwner.calls c true _ HOF.out).mono ?_
 rintro e w3 ⟨rfl, hb3⟩
 have x0 := pw_cell_below hb3.below y0
 have HB3 := Aside0.mk (below_then HB2.out HB2.out.size hb3.below)
 have HX3 := Aside0.mk ((hb3.below.block _ (Array.getElem?_eq_some_iff.1 HX2.out).1).trans HX2.out)
 clear hb3 y0 y1 y2
 have q0 : ∀ o, (w3.alloc o).cell? ⟨w.heap.size, 0, none⟩ = some (.int .i64 a) := fun o => pw_cell_below (below_alloc (Below.refl _ _) o) x0
 clear x0
 go_wp2_with fail
 refine (tl_within_any _ _ _ _ _ _).mono ?_
 rintro e w4 ⟨rfl, rfl⟩
 clear q0
 obtain ⟨W5, hW5⟩ : ∃ W5, w3.alloc (.cells #[.slice none 0 0] 131) = W5 := ⟨_, rfl⟩
 have K0 := Aside0.mk (show tl_BS w3 w3.heap.size W5 [] by rw [← hW5]; exact tl_BS.new (Below.refl _ _))
 have HS5 := Aside0.mk (show W5.heap.size = w3.heap.size + 1 by rw [← hW5]; simp)
 have HXL := Aside0.mk ((Array.getElem?_eq_some_iff.1 HX3.out).1)
 have HR3 := Aside0.mk (Kd.C_below HR.out HB3.out)
 simp only [hW5]
 clear hW5
 go_wp2_with fail
 refine (tl_each_any w3.heap.size W5.heap.size (W5.heap.size + 1) (W5.heap.size + 2) A0 c0 l0 [] 0 a w3 _ (tl_three_bs K0.out) (by have := HS5.out; omega) (tl_three_0 W5 _ _ _) (tl_three_1 W5 _ _ _) (tl_three_2 W5 _ _ _) HR3.out (by have := HL.out; simp; omega)).mono ?_
 rintro e w6 ⟨rfl, k6⟩
 have hx6 := (k6.low.block _ HXL.out).trans HX3.out
 have x0 := (blk_cell hx6 0).trans rfl
 have x1 := (blk_cell hx6 1).trans rfl
 have x2 := (blk_cell hx6 2).trans rfl
 have K6 := Aside0.mk k6
 clear k6 hx6
 go_wp2_with fail
 refine (tl_add_any w3.heap.size (tl_addAll [] (tl_clip l0 0 a)) a b c w3 _ K6.out (by have := HL.out; have := HLEN.out; omega)).mono ?_
 rintro e w7 ⟨rfl, k7, _⟩
 have hx7 := (k7.low.block _ HXL.out).trans HX3.out
 have x0 := (blk_cell hx7 0).trans rfl
 have x1 := (blk_cell hx7 1).trans rfl
 have x2 := (blk_cell hx7 2).trans rfl
 have K7 := Aside0.mk k7
 clear k7 hx7
 go_wp2_with fail
 go_region_with (first | (go_at_call 72; refine (timeline_end.calls _ _ l0 (tl_tend l0) _ (Kd.C_below HR3.out (below_drew K7.out.low)) HC.out HEF.out).mono ?_; rintro e w8 ⟨rfl, hb8⟩; have x1' := pw_cell_below hb8.below (show w7.drew.cell? _ = _ from x1); have K8 := Aside0.mk ((show tl_BS w3 w3.heap.size w7.drew _ from K7.out.below (below_drew (Below.refl _ _))).below hb8.below); clear hb8) | (go_at_call 67; refine (tl_within_any _ _ _ _ _ _).mono ?_; rintro e w9 ⟨rfl, rfl⟩) | (go_at_call 70; refine (tl_each_any w3.heap.size w8.heap.size (w8.heap.size + 1) (w8.heap.size + 2) A0 c0 l0 (tl_addS (tl_addAll [] (tl_clip l0 0 a)) ⟨a, b, c⟩) b (tl_tend l0) w3 _ (tl_three_bs K8.out) ?e1 (tl_three_0 w8 _ _ _) (tl_three_1 w8 _ _ _) (tl_three_2 w8 _ _ _) HR3.out ?e2).mono ?_; (case e1 => (have := K8.out.lt; omega)); (case e2 => (have := HL.out; have := HLEN.out; omega)); rintro e w10 ⟨rfl, k10⟩; have K10 := Aside0.mk k10; clear k10))
 all_goals
  go_wp2_with fail
  refine (tl_done_any w3.heap.size _ w3 _ K10.out).mono ?_
  rintro e w11 ⟨v, rfl, hr, hbl⟩
  obtain ⟨A9, c9, rfl⟩ := Kd.R_slice hr
  have HR11 := Aside0.mk hr
  have HB11 := Aside0.mk hbl
  clear hr hbl
  go_wp2
  go_ret2
  exact ⟨_, rfl, Kd.R_lower HR11.out HB3.out.size, below_then HB3.out HB3.out.size HB11.out⟩

set_option maxRecDepth 100000 in
set_option maxHeartbeats 1000000 in
theorem tl_put_no (A0 : Option Addr) (c0 : Nat) (l0 : List S74) (a b c : Int) (w : World) (hr0 : Kd.C k74 w A0 l0.length l0) (hc0 : l0.length ≤ c0) (h : tl_validB l0 = false ∨ (tl_validB l0 = true ∧ tl_insideB l0 a b = false) ∨ (tl_validB l0 = true ∧ tl_insideB l0 a b = true ∧ tl_ownerB c = false)) :
  Calls Tryd.prog 37 #[.slice A0 l0.length c0, .agg #[.int .i64 a, .int .i64 b, .int .i64 c]] w fun e w' => e = .returned (.tuple #[.slice none 0 0, .int .i64 150]) ∧ Below w.heap.size w w' := by
 have hn := hr0.2.1
 have HR := Aside0.mk hr0
 have HC := Aside0.mk hc0
 have HIF := Aside0.mk (tl_inside_f l0 a b hn)
 have HOF := Aside0.mk (tl_owner_f c)
 have HVF := Aside0.mk (tl_valid_f l0 hn (k := l0.length + 1) (by omega))
 clear hr0 hc0 hn
 rcases h with h | ⟨h, h'⟩ | ⟨h, h', h''⟩
 ·rw [h] at HVF
  clear h
  go_enter Tryd.func37, Tryd.ntmps37
  go_wp2_with fail
  refine (timeline_Valid.calls _ _ _ l0 false _ (Kd.C_below HR.out (below_alloc (Below.refl _ _) _)) HC.out HVF.out).mono ?_
  rintro e w1 ⟨rfl, hb1⟩
  have HB := Aside0.mk (below_then (below_alloc (Below.refl w.heap.size w) _) (by simp) hb1)
  clear hb1
  go_wp2
  go_ret2
  exact ⟨rfl, HB.out⟩
 ·rw [h] at HVF
  rw [h'] at HIF
  clear h h'
  go_enter Tryd.func37, Tryd.ntmps37
  go_wp2_with fail
  refine (timeline_Valid.calls _ _ _ l0 true _ (Kd.C_below HR.out (below_alloc (Below.refl _ _) _)) HC.out HVF.out).mono ?_
  rintro e w1 ⟨rfl, hb1⟩
  have HB := Aside0.mk (below_then (below_alloc (Below.refl w.heap.size w) _) (by simp) hb1)
  have hbx : w1.heap[w.heap.size]? = some (.cells #[.int .i64 a, .int .i64 b, .int .i64 c] 74 (0, 0)) := (hb1.block w.heap.size (by simp)).trans (World.alloc_heap_new _ _)
  have x0 := (blk_cell hbx 0).trans rfl
  have x1 := (blk_cell hbx 1).trans rfl
  clear hb1 hbx
  go_wp2_with fail
  refine (timeline_isInside.calls _ _ l0 a b false _ (Kd.C_below HR.out HB.out) HC.out HIF.out).mono ?_
  rintro e w2 ⟨rfl, hb2⟩
  have HB2 := Aside0.mk (below_then HB.out HB.out.size hb2.below)
  clear hb2 x0 x1
  go_wp2
  go_ret2
  exact ⟨rfl, HB2.out⟩
 ·rw [h] at HVF
  rw [h'] at HIF
  rw [h''] at HOF
  clear h h' h''
  go_enter Tryd.func37, Tryd.ntmps37
  go_wp2_with fail
  refine (timeline_Valid.calls _ _ _ l0 true _ (Kd.C_below HR.out (below_alloc (Below.refl _ _) _)) HC.out HVF.out).mono ?_
  rintro e w1 ⟨rfl, hb1⟩
  have HB := Aside0.mk (below_then (below_alloc (Below.refl w.heap.size w) _) (by simp) hb1)
  have hbx : w1.heap[w.heap.size]? = some (.cells #[.int .i64 a, .int .i64 b, .int .i64 c] 74 (0, 0)) := (hb1.block w.heap.size (by simp)).trans (World.alloc_heap_new _ _)
  have x0 := (blk_cell hbx 0).trans rfl
  have x1 := (blk_cell hbx 1).trans rfl
  have x2 := (blk_cell hbx 2).trans rfl
  clear hb1 hbx
  go_wp2_with fail
  refine (timeline_isInside.calls _ _ l0 a b true _ (Kd.C_below HR.out HB.out) HC.out HIF.out).mono ?_
  rintro e w2 ⟨rfl, hb2⟩
  have y2 := pw_cell_below hb2.below x2
  have HB2 := Aside0.mk (below_then HB.out HB.out.size hb2.below)
  clear hb2 x0 x1 x2
  go_wp2_with fail
  refine (timeline_isOwner.calls c false _ HOF.out).mono ?_
  rintro e w3 ⟨rfl, hb3⟩
  have HB3 := Aside0.mk (below_then HB2.out HB2.out.size hb3.below)
  clear hb3 y2
  go_wp2
  go_ret2
  exact ⟨rfl, HB3.out⟩
theorem timeline_Put.calls (A0 : Option Addr) (c0 : Nat) (l0 : List S74) (a1_0 a1_1 a1_2 : Int) (r1 : List S74) (r2 : Int) (w : World) (hr0 : Kd.C k74 w A0 l0.length l0) (hc0 : l0.length ≤ c0) (h : timeline_Put.f l0 a1_0 a1_1 a1_2 = some (r1, r2)) :
  Calls Tryd.prog 37 #[.slice A0 l0.length c0, .agg #[.int .i64 a1_0, .int .i64 a1_1, .int .i64 a1_2]] w fun e w' => ∃ v0_ : Value, e = .returned (.tuple #[v0_, .int .i64 r2]) ∧ Kd.R k74 74 w' w.heap.size (fun _ => True) v0_ r1 ∧ Below w.heap.size w w' := by
 unfold timeline_Put.f at h
 replace h := Option.some.inj h
 by_cases hc : (tl_validB l0 && tl_insideB l0 a1_0 a1_1 && tl_ownerB a1_2) = true
 ·rw [if_pos hc] at h
  simp only [Bool.and_eq_true] at hc
  have e1 : r1 = (tl_doneF (tl_putP l0 a1_0 a1_1 a1_2)).1 := by rw [h]
  have e2 : r2 = (tl_doneF (tl_putP l0 a1_0 a1_1 a1_2)).2 := by rw [h]
  rw [e1, e2]
  exact tl_put_yes A0 c0 l0 a1_0 a1_1 a1_2 w hr0 hc0 hc.1.1 hc.1.2 hc.2
 ·rw [if_neg hc] at h
  obtain ⟨rfl, rfl⟩ := Prod.mk.inj h
  refine (tl_put_no A0 c0 l0 a1_0 a1_1 a1_2 w hr0 hc0 ?_).mono ?_
  ·cases hv : tl_validB l0 <;> cases hi : tl_insideB l0 a1_0 a1_1 <;> cases ho : tl_ownerB a1_2 <;> simp_all
  ·rintro e w' ⟨rfl, hb⟩
   exact ⟨_, rfl, Kd.R_nil _ _ _ _ _, hb⟩

end Go.Proofs.YtglcdgalimgkeaaDoor.PJB
