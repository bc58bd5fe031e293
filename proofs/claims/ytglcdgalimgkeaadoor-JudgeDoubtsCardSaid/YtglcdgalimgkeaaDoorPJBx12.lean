-- PRINTED by print.py (a twelfth state) out of the translation. Not trusted: Lean checks it.
import Derived.Test.YtglcdgalimgkeaaDoorPJBx0
import Derived.Test.YtglcdgalimgkeaaDoorPJBx6
import Derived.Test.YtglcdgalimgkeaaDoorPJBx10
import Derived.RangeFuncNested
import Derived.RangeFuncBound
import Derived.RangeFuncCalls
import Derived.RangeFuncLeaves
import Derived.RangeFuncBox
import Derived.Shelf.Abstract
import Derived.Shelf.RegionOpen
import Derived.OwnWalkIn
import Derived.TacticsInMore
import Derived.LoopNIn
import Derived.LoopIn
import Derived.OneCell
import Derived.BigQuiet
import Derived.Deep.RegionWith
import Derived.Deep.RegionHeld3
import Derived.Deep.RegionLaw
import Derived.IntWalk
import Derived.Lib.SliceRun
import Derived.Laws.EntriesVeiled
import Derived.Sort.QuietIn
import Derived.Deep.RegionLawGrows
namespace Go.Proofs.YtglcdgalimgkeaaDoor.PJB
open Go.RowKit Go.Proofs.YtglcdgalimgkeaaDoorW.PrintWords Go.Proofs.YtglcdgalimgkeaaDoorW.PrintLast Go.Proofs.YtglcdgalimgkeaaDoorW.PrintMore
attribute [local go_sem] max2_int min2_int max_two min_two max_three min_three max_four min_four   -- for this text's walks alone
set_option linter.unusedVariables false
set_option linter.unusedSimpArgs false

attribute [local go_sem] Oper.semAt_some
open Go.Shelf
-- given by hand: jd1
def jd_tbl : List Value := [.bool false, .func (.func 137) #[] #[], .bool true, .func (.func 138) #[] #[], .bool true, .func (.func 139) #[] #[], .bool false, .func (.func 137) #[] #[], .bool false, .func (.func 137) #[] #[]]
def GG (w : World) : Prop := ∀ j v, jd_tbl[j]? = some v → w.cell? ⟨1, j, none⟩ = some v
theorem gg_below {w W : World} (h : GG w) (hb : Below w.heap.size w W) : GG W := fun j v hj => pw_cell_below hb (h j v hj)
theorem gg_at {w W : World} (h : Aside0 (GG w)) (hb : Below w.heap.size w W) : Aside0 (GG W) := ⟨gg_below h.out hb⟩
def jd_s (k : Int) : Bool := k == 1 || k == 2
def jd_m (k : Int) : Nat := if k = 1 then 138 else if k = 2 then 139 else 137
theorem jd_cells {w : World} (hG : GG w) (o : Obj) (j : Nat) (v : Value) (h : jd_tbl[j]? = some v) : (w.alloc o).cell? ⟨1, j, none⟩ = some v := pw_cell_below (below_alloc (Below.refl _ _) o) (hG j v h)
theorem jd_ret {w : World} (x y : Value) {tmps : Array Value} (ht : tmps[2]? = some (.pointer (some ⟨w.heap.size, 0, none⟩)))  : bodyPost Tryd.prog Tryd.f59 (fun e w' => e = Ending.returned (Value.agg #[x, y]) ∧ Below w.heap.size w w') Exit.ret { tmps := tmps, defers := [] } (w.alloc (Obj.cells #[x, y] 116)) := by
 have hb : (w.alloc (.cells #[x, y] 116)).heap[w.heap.size]? = some (.cells #[x, y] 116 (0, 0)) := World.alloc_heap_new _ _
 have k0 := (blk_cell hb 0).trans rfl
 have k1 := (blk_cell hb 1).trans rfl
 exact bodyPost_ret (v := .agg #[x, y]) (by simp [results, Tryd.f59, go_sem, ht, k0, k1]) rfl ⟨rfl, below_alloc (Below.refl _ _) _⟩
set_option maxRecDepth 100000 in
theorem jd_ruleOf (k : Int) (w : World) (hG : GG w) : Calls Tryd.prog 59 #[.int .i64 k] w fun e w' => e = .returned (.agg #[.bool (jd_s k), .func (.func (jd_m k)) #[] #[]]) ∧ Below w.heap.size w w' := by
 have c := jd_cells hG (.cells #[.bool false, .nilFunc] 116)
 have hS := below_alloc (Below.refl w.heap.size w) (.cells #[.bool false, .nilFunc] 116)
 have hb : (w.alloc (.cells #[.bool false, .nilFunc] 116)).heap[w.heap.size]? = some (.cells #[.bool false, .nilFunc] 116 (0, 0)) := World.alloc_heap_new _ _
 have z0 := (blk_cell hb 0).trans rfl
 have z1 := (blk_cell hb 1).trans rfl
 have y0 := blk_frozen hb 0
 have y1 := blk_frozen hb 1
 by_cases hk : k < 0 ∨ 5 ≤ k
 ·have c0 := c 0 _ rfl
  have c1 := c 1 _ rfl
  have e1 : jd_s k = false := by unfold jd_s; simp; omega
  have e2 : jd_m k = 137 := by unfold jd_m; rw [if_neg (by omega), if_neg (by omega)]
  rw [e1, e2]
  clear c e1 e2 hG
  go_enter Tryd.func59, Tryd.ntmps59
  go_wp2_with fail
  all_goals exact jd_ret (.bool false) (.func (.func 137) #[] #[]) rfl
 ·obtain rfl | rfl | rfl | rfl | rfl : k = 0 ∨ k = 1 ∨ k = 2 ∨ k = 3 ∨ k = 4 := by omega
  ·have c0 := c 0 _ rfl
   have c1 := c 1 _ rfl
   have e1 : jd_s 0 = false := rfl
   have e2 : jd_m 0 = 137 := by rfl
   rw [e1, e2]
   clear c e1 e2 hG
   go_enter Tryd.func59, Tryd.ntmps59
   go_wp2_with fail
   exact jd_ret (.bool false) (.func (.func 137) #[] #[]) rfl
  ·have c0 := c 2 _ rfl
   have c1 := c 3 _ rfl
   have e1 : jd_s 1 = true := by rfl
   have e2 : jd_m 1 = 138 := by rfl
   rw [e1, e2]
   clear c e1 e2 hG
   go_enter Tryd.func59, Tryd.ntmps59
   go_wp2_with fail
   exact jd_ret (.bool true) (.func (.func 138) #[] #[]) rfl
  ·have c0 := c 4 _ rfl
   have c1 := c 5 _ rfl
   have e1 : jd_s 2 = true := by rfl
   have e2 : jd_m 2 = 139 := by rfl
   rw [e1, e2]
   clear c e1 e2 hG
   go_enter Tryd.func59, Tryd.ntmps59
   go_wp2_with fail
   exact jd_ret (.bool true) (.func (.func 139) #[] #[]) rfl
  ·have c0 := c 6 _ rfl
   have c1 := c 7 _ rfl
   have e1 : jd_s 3 = false := rfl
   have e2 : jd_m 3 = 137 := by rfl
   rw [e1, e2]
   clear c e1 e2 hG
   go_enter Tryd.func59, Tryd.ntmps59
   go_wp2_with fail
   exact jd_ret (.bool false) (.func (.func 137) #[] #[]) rfl
  ·have c0 := c 8 _ rfl
   have c1 := c 9 _ rfl
   have e1 : jd_s 4 = false := rfl
   have e2 : jd_m 4 = 137 := by rfl
   rw [e1, e2]
   clear c e1 e2 hG
   go_enter Tryd.func59, Tryd.ntmps59
   go_wp2_with fail
   exact jd_ret (.bool false) (.func (.func 137) #[] #[]) rfl
def judge_Against.f (k : Nat) (a0 a1_0 a1_1 : Int) (l2 : List Int) : Option Bool := if 0 ≤ a0 then (if a0 ≤ 2999 then ((heard_ValidVerdicts.f k [⟨a1_0, a1_1⟩]).bind fun v => if v = true then (if a1_0 = 1 then some (a0 != wrap64 (1 + a1_1)) else if a1_0 = 2 then slices_Contains_int_int.f k l2 (wrap64 (a0 - 1)) else some false) else some false) else some false) else some false
theorem judge_Against.mono : ∀ a0 a1_0 a1_1 l2 k, LeO (judge_Against.f k a0 a1_0 a1_1 l2) (judge_Against.f (k + 1) a0 a1_0 a1_1 l2) := by
 intro a0 a b l k r h
 unfold judge_Against.f at h ⊢
 by_cases h0 : 0 ≤ a0
 ·by_cases h1 : a0 ≤ 2999
  ·rw [if_pos h0, if_pos h1] at h ⊢
   obtain ⟨v, hv, h⟩ := Option.bind_eq_some_iff.1 h
   rw [heard_ValidVerdicts.mono _ _ _ hv, Option.bind_some]
   cases v
   ·exact h
   ·rw [if_pos rfl] at h ⊢
    by_cases h2 : a = 1
    ·rw [if_pos h2] at h ⊢; exact h
    ·rw [if_neg h2] at h ⊢
     by_cases h3 : a = 2
     ·rw [if_pos h3] at h ⊢; exact slices_Contains_int_int.mono _ _ _ _ h
     ·rw [if_neg h3] at h ⊢; exact h
  ·rw [if_pos h0, if_neg h1] at h ⊢; exact h
 ·rw [if_neg h0] at h ⊢; exact h
/-- What a table's function answers. -/
theorem jd_rule (k : Nat) (kd a b : Int) (A : Option Addr) (c : Nat) (l : List Int) (r : Bool) (w : World) (hr : Kd.C (Kd.int .i64) w A l.length l) (hc : l.length ≤ c)
  (h : (if kd = 1 then some (a != wrap64 (1 + b)) else if kd = 2 then slices_Contains_int_int.f k l (wrap64 (a - 1)) else some false) = some r) :
  Calls Tryd.prog (jd_m kd) #[.int .i64 a, .int .i64 b, .slice A l.length c] w fun e w' => e = .returned (.bool r) ∧ Below w.heap.size w w' := by
 by_cases h1 : kd = 1
 ·rw [if_pos h1] at h
  obtain rfl := Option.some.inj h
  have e : jd_m kd = 138 := by unfold jd_m; rw [if_pos h1]
  rw [e]
  clear e h hr hc h1
  go_enter Tryd.func138, Tryd.ntmps138
  go_wp2
  go_ret
  exact ⟨rfl, Below.refl _ _⟩
 ·rw [if_neg h1] at h
  by_cases h2 : kd = 2
  ·rw [if_pos h2] at h
   have e : jd_m kd = 139 := by unfold jd_m; rw [if_neg h1, if_pos h2]
   rw [e]
   have H := Aside0.mk h
   have HR := Aside0.mk hr
   have HC := Aside0.mk hc
   clear e h hr hc h1 h2
   go_enter Tryd.func139, Tryd.ntmps139
   go_wp2_with fail
   refine (slices_Contains_int_int.calls k _ _ l _ r _ HR.out HC.out H.out).mono ?_
   rintro e w' ⟨rfl, hd⟩
   have HB := Aside0.mk hd.below
   clear hd
   go_wp2
   go_ret
   exact ⟨rfl, HB.out⟩
  ·rw [if_neg h2] at h
   obtain rfl := Option.some.inj h
   have e : jd_m kd = 137 := by unfold jd_m; rw [if_neg h1, if_neg h2]
   rw [e]
   clear e h hr hc h1 h2
   go_enter Tryd.func137, Tryd.ntmps137
   go_wp2
   go_ret
   exact ⟨rfl, Below.refl _ _⟩
theorem jd_field1 (x y : Value) (w : World) : (Instr.field 116 (.agg #[x, y]) 1).run Tryd.prog w = .ok y w := by kernel_rfl
theorem jd_field0 (x y : Value) (w : World) : (Instr.field 116 (.agg #[x, y]) 0).run Tryd.prog w = .ok x w := by kernel_rfl
theorem jd_m3 (k : Int) : jd_m k = 138 ∨ jd_m k = 139 ∨ jd_m k = 137 := by
 unfold jd_m
 by_cases h : k = 1
 ·rw [if_pos h]; exact .inl rfl
 ·by_cases h2 : k = 2
  ·rw [if_neg h, if_pos h2]; exact .inr (.inl rfl)
  ·rw [if_neg h, if_neg h2]; exact .inr (.inr rfl)
theorem jd_one {W : World} {g : Nat} {a b : Int} (h : W.heap[g]? = some (.cells #[.int .i64 a, .int .i64 b] 54 (0, 0))) : Kd.C k54 W (some ⟨g, 0, none⟩) 1 [⟨a, b⟩] := by
 refine ⟨rfl, by decide, fun _ => ⟨_, rfl, fun j p hj => ?_⟩⟩
 match j, hj with
 | 0, hj =>
  cases hj
  refine ⟨_, rfl, k54_mk W _, fun i u hu => ?_⟩
  match i, hu with
  | 0, hu => cases hu; exact (blk_cell h 0).trans rfl
  | 1, hu => cases hu; exact (blk_cell h 1).trans rfl
theorem jd_S2o {p q : Prop} {Wc W : World} (h : p ∧ q ∧ Aside0 (Below Wc.heap.size Wc W)) : Below Wc.heap.size Wc W := h.2.2.out
theorem jd_S2 {Wc W : World} {p0 p1 : Addr} {x y : Value} (hb : Below Wc.heap.size Wc W) (y0 : Wc.cell? p0 = some x) (y1 : Wc.cell? p1 = some y) : W.cell? p0 = some x ∧ W.cell? p1 = some y ∧ Aside0 (Below Wc.heap.size Wc W) := ⟨pw_cell_below hb y0, pw_cell_below hb y1, ⟨hb⟩⟩
set_option maxRecDepth 100000 in
theorem judge_Against.calls (k : Nat) (a0 : Int) (a1_0 a1_1 : Int) (A2 : Option Addr) (c2 : Nat) (l2 : List Int) (r : Bool) (w : World) (hG : Aside0 (GG w)) (hr2 : Kd.C (Kd.int .i64) w A2 l2.length l2) (hc2 : l2.length ≤ c2) (h : judge_Against.f k a0 a1_0 a1_1 l2 = some r) :
  Calls Tryd.prog 25 #[.int .i64 a0, .agg #[.int .i64 a1_0, .int .i64 a1_1], .slice A2 l2.length c2] w fun e w' => e = .returned (.bool r) ∧ Below w.heap.size w w' := by
 have hb : (w.alloc (.cells #[.int .i64 a1_0, .int .i64 a1_1] 54)).heap[w.heap.size]? = some (.cells #[.int .i64 a1_0, .int .i64 a1_1] 54 (0, 0)) := World.alloc_heap_new _ _
 have z0 : (w.alloc (.cells #[.int .i64 a1_0, .int .i64 a1_1] 54)).cell? ⟨w.heap.size, 0, none⟩ = some (.int .i64 a1_0) := (blk_cell hb 0).trans rfl
 have z1 : (w.alloc (.cells #[.int .i64 a1_0, .int .i64 a1_1] 54)).cell? ⟨w.heap.size, 1, none⟩ = some (.int .i64 a1_1) := (blk_cell hb 1).trans rfl
 have HR := Aside0.mk hr2
 have HC := Aside0.mk hc2
 have HBK := Aside0.mk hb
 have H := Aside0.mk h
 clear hr2 hc2 h hb
 by_cases h0 : 0 ≤ a0
 ·by_cases h1 : a0 ≤ 2999
  ·have h := H.out
   unfold judge_Against.f at h
   rw [if_pos h0, if_pos h1] at h
   obtain ⟨v, hv, h⟩ := Option.bind_eq_some_iff.1 h
   have HV := Aside0.mk hv
   replace H := Aside0.mk h
   clear h hv
   go_enter Tryd.func25, Tryd.ntmps25
   go_wp2_with fail
   refine (heard_ValidVerdicts.calls k _ _ [⟨a1_0, a1_1⟩] v _ (jd_one (by have := World.alloc_heap_new (w.alloc (.cells #[.int .i64 a1_0, .int .i64 a1_1] 54)) (.cells #[.int .i64 a1_0, .int .i64 a1_1] 54); rwa [World.size_alloc] at this)) (Nat.le_refl 1) HV.out).mono ?_
   rintro e w2 ⟨rfl, hd⟩
   have hb2 := below_step (below_alloc (Below.refl (w.alloc (.cells #[.int .i64 a1_0, .int .i64 a1_1] 54)).heap.size _) _) hd
   have y0 := pw_cell_below hb2 z0
   have y1 := pw_cell_below hb2 z1
   have HB2 := Aside0.mk (below_step (below_alloc (Below.refl w.heap.size w) _) hb2)
   replace hG := gg_at hG HB2.out
   have HG := hG
   replace HR := Aside0.mk (Kd.C_below HR.out HB2.out)
   clear hd hb2 z0 z1 HBK hG
   cases v
   ·have h := H.out
    rw [if_neg (by decide)] at h
    obtain rfl := Option.some.inj h
    clear h
    go_wp2_with fail
    go_quiet (fail)
    go_wp2
    go_ret
    exact ⟨rfl, pw_below_drewN HB2.out _⟩
   ·obtain ⟨m, hm⟩ : ∃ m, jd_m a1_0 = m := ⟨_, rfl⟩
    have HRU : ∀ W, Below w2.heap.size w2 W → Calls Tryd.prog m #[.int .i64 a0, .int .i64 a1_1, .slice A2 l2.length c2] W fun e w' => e = .returned (.bool r) ∧ Below W.heap.size W w' := fun W hb => hm ▸ jd_rule k a1_0 a0 a1_1 A2 c2 l2 r W (Kd.C_below HR.out hb) HC.out (by have h := H.out; rw [if_pos rfl] at h; exact h)
    have hfd : ∀ W : World, (Instr.field 116 (.agg #[.bool (jd_s a1_0), .func (.func (jd_m a1_0)) #[] #[]]) 1).run Tryd.prog W = .ok (.func (.func m) #[] #[]) W := fun W => by rw [hm]; exact jd_field1 _ _ W
    have hm3 := jd_m3 a1_0
    rw [hm] at hm3
    clear hm
    obtain rfl | rfl | rfl := hm3
    all_goals
     go_wp2_with fail
     go_region_held3 (fun W => W.cell? ⟨w.heap.size, 0, none⟩ = some (.int .i64 a1_0) ∧ W.cell? ⟨w.heap.size, 1, none⟩ = some (.int .i64 a1_1) ∧ Aside0 (Below w2.heap.size w2 W)) (first | (refine jd_S2 ?_ y0 y1; (repeat (first | exact Below.refl _ _ | exact Aside0.out (by assumption) | refine below_alloc ?_ _ | refine below_drew ?_ | refine pw_below_drewN ?_ _)))) (first | (go_at_call 59; with_reducible refine (jd_ruleOf a1_0 _ ?hg).mono ?_; (case hg => exact gg_below HG.out (jd_S2o (by assumption))); rintro e W5 ⟨rfl, hb5⟩; have HS5 := Aside0.mk (below_step (jd_S2o (Wc := w2) (by assumption)) hb5); clear hb5) | ((with_reducible refine (HRU _ ?hs).mono ?_); (case hs => exact jd_S2o (by assumption)); rintro e W6 ⟨rfl, hb6⟩; have HS6 := Aside0.mk (below_step (jd_S2o (Wc := w2) (by assumption)) hb6); clear hb6))
     go_wp2
     go_ret
     exact ⟨rfl, below_step HB2.out (jd_S2o (Wc := w2) (by assumption))⟩
  ·have h := H.out
   unfold judge_Against.f at h
   rw [if_pos h0, if_neg h1] at h
   obtain rfl := Option.some.inj h
   clear h H HR HC HBK
   go_enter Tryd.func25, Tryd.ntmps25
   go_wp2_with fail
   go_quiet (fail)
   go_wp2
   go_ret
   exact ⟨rfl, pw_below_drewN (below_alloc (Below.refl _ _) _) _⟩
 ·have h := H.out
  unfold judge_Against.f at h
  rw [if_neg h0] at h
  obtain rfl := Option.some.inj h
  clear h H HR HC HBK
  go_enter Tryd.func25, Tryd.ntmps25
  go_wp2_with fail
  go_quiet (fail)
  go_wp2
  go_ret
  exact ⟨rfl, pw_below_drewN (below_alloc (Below.refl _ _) _) _⟩

end Go.Proofs.YtglcdgalimgkeaaDoor.PJB
