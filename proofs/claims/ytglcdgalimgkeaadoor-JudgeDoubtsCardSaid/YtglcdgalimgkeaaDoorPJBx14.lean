-- PRINTED by print.py (a twelfth state) out of the translation. Not trusted: Lean checks it.
import Derived.Test.YtglcdgalimgkeaaDoorPJBx0
import Derived.Test.YtglcdgalimgkeaaDoorPJBx12
import Derived.Test.YtglcdgalimgkeaaDoorPJBx13
import Derived.RangeFuncNested
import Derived.RangeFuncBound
import Derived.RangeFuncCalls
import Derived.RangeFuncLeaves
import Derived.RangeFuncBox
import Derived.Shelf.Abstract
import Derived.Shelf.RegionOpen
import Derived.OwnWalkIn
import Derived.TacticsInMore
import Derived.LoopNIn
import Derived.LoopIn
import Derived.OneCell
import Derived.BigQuiet
import Derived.Deep.RegionWith
import Derived.Deep.RegionHeld3
import Derived.Deep.RegionLaw
import Derived.IntWalk
import Derived.Lib.SliceRun
import Derived.Laws.EntriesVeiled
import Derived.Sort.QuietIn
import Derived.Deep.RegionLawGrows
namespace Go.Proofs.YtglcdgalimgkeaaDoor.PJB
open Go.RowKit Go.Proofs.YtglcdgalimgkeaaDoorW.PrintWords Go.Proofs.YtglcdgalimgkeaaDoorW.PrintLast Go.Proofs.YtglcdgalimgkeaaDoorW.PrintMore
attribute [local go_sem] max2_int min2_int max_two min_two max_three min_three max_four min_four   -- for this text's walks alone
set_option linter.unusedVariables false
set_option linter.unusedSimpArgs false

attribute [local go_sem] Oper.semAt_some
open Go.Shelf
-- given by hand: jd2
abbrev JF := Int × Int × S54
def jd_fact (line : List S74) (K : Nat → Nat) (from_ : Int) (a b : List S54) (i : Nat) : List JF := if (rd_T54 a i).f0 = (rd_T54 b i).f0 ∧ (rd_T54 a i).f1 = (rd_T54 b i).f1 ∧ jd_s (rd_T54 a i).f0 = true then [(from_ + i, (rd_T74 line (K i : Int)).f2, rd_T54 a i)] else []
def jd_F (line : List S74) (K : Nat → Nat) (from_ : Int) (a b : List S54) (n : Nat) : List JF := (List.range n).flatMap (jd_fact line K from_ a b)
theorem jd_F_succ (line K from_ a b n) : jd_F line K from_ a b (n + 1) = jd_F line K from_ a b n ++ jd_fact line K from_ a b n := by
 unfold jd_F
 rw [List.range_succ, List.flatMap_append, List.flatMap_cons, List.flatMap_nil, List.append_nil]
theorem jd_fact_len (line K from_ a b n) : (jd_fact line K from_ a b n).length ≤ 1 := by
 unfold jd_fact
 split <;> simp
theorem jd_F_len (line K from_ a b) : ∀ n, (jd_F line K from_ a b n).length ≤ n
 | 0 => by simp [jd_F]
 | n + 1 => by
  rw [jd_F_succ, List.length_append]
  have := jd_F_len line K from_ a b n
  have := jd_fact_len line K from_ a b n
  omega
theorem jd_F_pre (line K from_ a b) (n : Nat) : ∀ m, jd_F line K from_ a b n <+: jd_F line K from_ a b (n + m)
 | 0 => List.prefix_refl _
 | m + 1 => (jd_F_pre line K from_ a b n m).trans (by rw [show n + (m + 1) = (n + m) + 1 from rfl, jd_F_succ]; exact List.prefix_append _ _)
def jd_enc (x : JF) : Array Value := #[.agg #[.int .i64 x.1, .int .i64 x.2.1, .int .i64 x.2.2.f0, .int .i64 x.2.2.f1]]
theorem jd_w {x : Int} (h0 : -9223372036854775808 ≤ x) (h1 : x ≤ 9223372036854775807) : wrap64 x = x := by unfold wrap64; omega
theorem jd_wi {x : Int} (h0 : -9223372036854775808 ≤ x) (h1 : x ≤ 9223372036854775807) : IntKind.i64.wrap x = x := (i64_w x).trans (jd_w h0 h1)
/-- Every block but those that R names (and what is no row of cells, from `base` on) stays as it is. -/
def JK (base : Nat) (R : Nat → Obj → Prop) (W W' : World) : Prop := W.heap.size ≤ W'.heap.size ∧ ∀ k o, W.heap[k]? = some o → (k < base ∨ o.isCells = true) → ¬ R k o → W'.heap[k]? = some o
theorem JK.refl (base R W) : JK base R W W := ⟨Nat.le_refl _, fun _ _ h _ _ => h⟩
theorem JK.trans {base R A B C} (h : JK base R A B) (k : JK base R B C) : JK base R A C := ⟨Nat.le_trans h.1 k.1, fun i o h1 h2 h3 => k.2 i o (h.2 i o h1 h2 h3) h2 h3⟩
theorem JK.of_below {base R A B} (h : Below A.heap.size A B) : JK base R A B := ⟨h.size, fun i o h1 _ _ => (h.block i (Array.getElem?_eq_some_iff.1 h1).1).trans h1⟩
theorem JK.kept {base R A B} (h : JK base R A B) (hR : ∀ k o, R k o → base ≤ k) : Kept A B (fun k => base ≤ k) := ⟨h.1, fun i hi hn => by
 obtain ⟨o, ho⟩ : ∃ o, A.heap[i]? = some o := ⟨_, Array.getElem?_eq_getElem hi⟩
 rw [ho]
 exact h.2 i o ho (.inl (Nat.lt_of_not_le hn)) (fun hr => hn (hR i o hr))⟩
theorem JK.cell {base R A B} {k j : Nat} {cs : Array Value} {t : TypeId} {v : Value} (h : JK base R A B) (hk : A.heap[k]? = some (.cells cs t (0, 0))) (hn : ¬ R k (.cells cs t (0, 0))) (hv : cs[j]? = some v) : B.cell? ⟨k, j, none⟩ = some v := (blk_cell (h.2 k _ hk (.inr rfl) hn) j).trans hv
set_option maxRecDepth 100000 in
set_option maxHeartbeats 8000000 in
theorem jd_sure1_in (n : Nat) (hn : 2 ≤ n) (l B : Nat) (R : Nat → Obj → Prop) (w0 : World) (A0 : Option Addr) (c0 : Nat) (line : List S74) (from_ : Int) (A2 : Option Addr) (c2 : Nat) (a : List S54) (A3 : Option Addr) (c3 : Nat) (b : List S54) (K : Nat → Nat) (J Jx : List JF → World → Prop)
  (hJ : ∀ s W W', J s W → Below W.heap.size W W' → J s W')
  (hY : ∀ pre x W, J pre W → pre.length < a.length → YieldAt Fence.wide (n - 1) Tryd.prog l (jd_enc x) W fun e W' =>
   (e = .returned (.bool true) ∧ J (pre ++ [x]) W' ∧ JK w0.heap.size R W W') ∨ (e = .returned (.bool false) ∧ Jx (pre ++ [x]) W'))
  (W : World) (hR : ∀ k o, R k o → w0.heap.size ≤ k) (hB : W.heap[B]? = some (.cells #[.slice A0 line.length c0, .int .i64 from_, .slice A2 a.length c2, .slice A3 b.length c3] 103 (0, 0)))
  (hRB : ¬ R B (.cells #[.slice A0 line.length c0, .int .i64 from_, .slice A2 a.length c2, .slice A3 b.length c3] 103 (0, 0))) (hRV : ∀ k cs, ¬ R k (.cells cs 54 (0, 0)))
  (hW : Below w0.heap.size w0 W) (hG : GG w0) (hC0 : Kd.C k74 w0 A0 line.length line) (hC2 : Kd.C k54 w0 A2 a.length a) (hC3 : Kd.C k54 w0 A3 b.length b)
  (hab : a.length = b.length) (hla : a.length ≤ 100000) (hll : line.length ≤ 100000) (hf0 : 0 ≤ from_) (hf1 : from_ ≤ 10000000)
  (hK1 : ∀ i, i < a.length → K i < line.length) (hK2 : ∀ i, i < a.length → ∀ j : Nat, j < K i → (rd_T74 line (j : Int)).f1 ≤ from_ + i) (hK3 : ∀ i, i < a.length → ¬ (rd_T74 line (K i : Int)).f1 ≤ from_ + i) (hK4 : ∀ i, K i ≤ K (i + 1))
  (h0 : J [] W) :
  CallsIn Fence.wide n Tryd.prog 85 #[.func (.yield l) #[] #[], .pointer (some ⟨B, 0, none⟩)] W fun e W' => (∃ v, e = .returned v) ∧
   ((∃ ys, ys = jd_F line K from_ a b a.length ∧ J ys W') ∨ (∃ pre, pre <+: jd_F line K from_ a b a.length ∧ Jx pre W')) := by
 have HC0 : Aside0 (∀ W', JK w0.heap.size R W W' → Kd.C k74 W' A0 line.length line) := ⟨fun W' h => Kd.C_kept_came k74_heap hC0 hW (fun k hk => hk) W' (h.kept hR)⟩
 have HC3 : Aside0 (∀ W', JK w0.heap.size R W W' → Kd.C k54 W' A3 b.length b) := ⟨fun W' h => Kd.C_kept_came k54_heap hC3 hW (fun k hk => hk) W' (h.kept hR)⟩
 have HC2 : Aside0 (∀ W', JK w0.heap.size R W W' → Kd.C k54 W' A2 a.length a) := ⟨fun W' h => Kd.C_kept_came k54_heap hC2 hW (fun k hk => hk) W' (h.kept hR)⟩
 have hGl : 1 < w0.heap.size := by
  by_cases hlt : 1 < w0.heap.size
  ·exact hlt
  ·exact absurd (hG 0 _ rfl) (by simp [World.cell?, Array.getElem?_eq_none (Nat.le_of_not_lt hlt)])
 have HG : Aside0 (∀ W', JK w0.heap.size R W W' → GG W') := ⟨fun W' h j v hj => by
  have h1 := (h.kept hR).2 1 (Nat.lt_of_lt_of_le hGl hW.size) (Nat.not_le.2 hGl)
  have h2 := hG j v hj
  rw [← h2]
  simp only [World.cell?, h1, hW.block _ hGl]⟩
 have HJ := Aside0.mk hJ
 have HY := Aside0.mk hY
 have HB := Aside0.mk hB
 have HRB := Aside0.mk hRB
 have HRV := Aside0.mk hRV
 have HK1 := Aside0.mk hK1
 have HK2 := Aside0.mk hK2
 have HK3 := Aside0.mk hK3
 have HK4 := Aside0.mk hK4
 have e2 : W.cell? ⟨B, 2, none⟩ = some (.slice A2 a.length c2) := (blk_cell hB 2).trans rfl
 clear hC0 hC2 hC3 hG hGl hJ hY hB hRB hRV hK1 hK2 hK3 hK4 hW hR
 refine callsIn_of_wp Tryd.func85 rfl trivial ?_ rfl
 simp only [Tryd.ntmps85, List.size_toArray, List.length_cons, List.length_nil, Nat.reduceAdd, Nat.reduceSub, Array.replicate_succ, Array.replicate_zero, List.push_toArray, List.append_toArray, List.nil_append, List.cons_append]
 gi_wp2
 gi_loopw [3, 9] (fun k3 i9 wr => ∃ (i k : Nat), i ≤ a.length ∧ i9 = .int .i64 i ∧ k3 = .int .i64 k ∧ k ≤ K i ∧ J (jd_F line K from_ a b i) wr ∧ Aside0 (JK w0.heap.size R W wr))
  (fun k3 i9 _ => a.length - (intOf i9).toNat)
 case atStart => exact ⟨0, 0, Nat.zero_le _, rfl, rfl, Nat.zero_le _, h0, ⟨JK.refl _ _ _⟩⟩
 case round =>
  obtain ⟨i, k, hi, rfl, rfl, hk, hJs, HKP⟩ := hrel
  by_cases hlt : i < a.length
  ·have d2 := HKP.out.cell HB.out HRB.out (j := 2) rfl
   obtain ⟨ad, rfl, hx0, hx1⟩ := at_T54 (HC2.out wr HKP.out) (i : Int) (by omega) (by omega)
   have hk1 : (i : Int) < a.length := by omega
   have hk2 : (0 : Int) ≤ i := by omega
   obtain ⟨x, hx⟩ : ∃ x, rd_T54 a ↑i = x := ⟨_, rfl⟩
   rw [hx, Int.toNat_natCast] at hx0 hx1
   have HX := Aside0.mk hx
   clear hx
   gi_wp2
   obtain ⟨W1, hW1⟩ : ∃ W1, wr.alloc (.cells #[.int .i64 x.f0, .int .i64 x.f1] 54) = W1 := ⟨_, rfl⟩
   have hbw : Below wr.heap.size wr W1 := by rw [← hW1]; exact below_alloc (Below.refl _ _) _
   have hv : W1.heap[wr.heap.size]? = some (.cells #[.int .i64 x.f0, .int .i64 x.f1] 54 (0, 0)) := by rw [← hW1]; exact World.alloc_heap_new _ _
   rw [hW1]
   have HK1' := Aside0.mk (HKP.out.trans (JK.of_below (R := R) (base := w0.heap.size) hbw))
   have HBW := Aside0.mk hbw
   have HV := Aside0.mk hv
   have HJS := Aside0.mk hJs
   clear hW1 hbw hv hx0 hx1 d2 hJs
   obtain ⟨vb, hvb⟩ : ∃ vb, wr.heap.size = vb := ⟨_, rfl⟩
   have HVB := Aside0.mk hvb
   rw [hvb] at HV ⊢
   clear hvb
   gi_loopw [3] (fun k3 wq_ => ∃ k' : Nat, k3 = .int .i64 k' ∧ k' ≤ K i ∧ Aside0 (Below W1.heap.size W1 wq_)) (fun k3 _ => K i - (intOf k3).toNat)
   case atStart => exact ⟨k, rfl, hk, ⟨Below.refl _ _⟩⟩
   case round =>
    obtain ⟨k', rfl, hk', HQ⟩ := hrel
    have hKl := HK1.out i hlt
    have HKQ := Aside0.mk (HK1'.out.trans (JK.of_below HQ.out))
    have f0 := HKQ.out.cell HB.out HRB.out (j := 0) rfl
    have f1 := HKQ.out.cell HB.out HRB.out (j := 1) rfl
    obtain ⟨adl, rfl, hy0, hy1, hy2⟩ := at_T74 (HC0.out _ HKQ.out) (k' : Int) (by omega) (by omega)
    obtain ⟨y, hy⟩ : ∃ y, rd_T74 line (k' : Int) = y := ⟨_, rfl⟩
    rw [hy, Int.toNat_natCast] at hy0 hy1 hy2
    have HY1 := Aside0.mk hy
    clear hy hy0
    have hw := jd_wi (x := from_ + i) (by omega) (by omega)
    have hkl : decide ((k' : Int) < line.length) = true := decide_eq_true (by omega)
    have hkl2 : (k' : Int) < line.length := by omega
    have hkl3 : (0 : Int) ≤ k' := by omega
    by_cases hyt : y.f1 ≤ from_ + i
    ·have hyd : decide (y.f1 ≤ from_ + i) = true := decide_eq_true hyt
     have hkK : k' < K i := by
      refine Nat.lt_of_le_of_ne hk' (fun e => Int.not_lt.2 hyt ?_)
      have := HK3.out i hlt
      rw [← e, HY1.out] at this
      first | exact this | exact Int.not_le.1 this
     gi_wp2
     gi_quiet (fail)
     gi_wp2
     go_roundw
     case rel => exact ⟨k' + 1, by go_num, by omega, ⟨pw_below_drewN HQ.out _⟩⟩
     case measure => simp [intOf]; omega
    ·have hyd : decide (y.f1 ≤ from_ + i) = false := decide_eq_false hyt
     have hkK : k' = K i := by
      refine Nat.le_antisymm hk' (Nat.le_of_not_lt (fun e => hyt ?_))
      have := HK2.out i hlt k' e
      rw [HY1.out] at this
      exact this
     have HKK := Aside0.mk hkK
     have HY2 := Aside0.mk hy2
     clear hkK hy2
     gi_wp2
     gi_quiet (fail)
     gi_wp2
     obtain ⟨W2, hW2⟩ : ∃ W2, World.drewN wr nq = W2 := ⟨_, rfl⟩
     have hb2 : Below W1.heap.size W1 W2 := by rw [← hW2]; exact pw_below_drewN HQ.out _
     rw [hW2]
     have HB2 := Aside0.mk (below_step HBW.out hb2)
     have HK2' := Aside0.mk (HK1'.out.trans (JK.of_below hb2))
     have hG2 := HG.out _ HK2'.out
     have hib : (i : Int) < b.length := by omega
     obtain ⟨adb, rfl, -, -⟩ := at_T54 (HC3.out _ HK2'.out) (i : Int) (by omega) hib
     obtain ⟨v, hv⟩ : ∃ v, rd_T54 b ↑i = v := ⟨_, rfl⟩
     have HVV := Aside0.mk hv
     have HC8 : ∀ w', JK w0.heap.size R W2 w' → w'.cell? ⟨vb, 0, none⟩ = some (.int .i64 x.f0) ∧ w'.cell? ⟨vb, 1, none⟩ = some (.int .i64 x.f1) ∧ w'.cell? ⟨B, 0, none⟩ = some (.slice (some adl) line.length c0) ∧ w'.cell? ⟨B, 1, none⟩ = some (.int .i64 from_) ∧ w'.cell? ⟨B, 3, none⟩ = some (.slice (some adb) b.length c3) ∧ w'.cell? (adb.add (i * 2)) = some (.int .i64 v.f0) ∧ w'.cell? ⟨(adb.add (i * 2)).block, (adb.add (i * 2)).off + 1, none⟩ = some (.int .i64 v.f1) ∧ w'.cell? ⟨(adl.add (k' * 3)).block, (adl.add (k' * 3)).off + 2, none⟩ = some (.int .i64 y.f2) := by
      intro w' h
      have hk8 := HK2'.out.trans h
      have hbv := hb2.block vb (Array.getElem?_eq_some_iff.1 HV.out).1
      obtain ⟨adb', e1, g0, g1⟩ := at_T54 (HC3.out _ hk8) (i : Int) (by omega) hib
      obtain ⟨adl', e2, _, _, g2⟩ := at_T74 (HC0.out _ hk8) (k' : Int) (by omega) (by omega)
      cases e1
      cases e2
      rw [hv, Int.toNat_natCast] at g0 g1
      rw [HY1.out, Int.toNat_natCast] at g2
      exact ⟨h.cell (hbv.trans HV.out) (HRV.out _ _) (j := 0) rfl, h.cell (hbv.trans HV.out) (HRV.out _ _) (j := 1) rfl, hk8.cell HB.out HRB.out (j := 0) rfl, hk8.cell HB.out HRB.out (j := 1) rfl, hk8.cell HB.out HRB.out (j := 3) rfl, g0, g1, g2⟩
     have hSW : JK w0.heap.size R W2 W2.drew := JK.of_below (below_drew (Below.refl _ _))
     have HG2 := Aside0.mk (gg_below hG2 (below_drew (Below.refl W2.heap.size W2)))
     have hfin : ∀ w', Below W2.heap.size W2 w' → Aside0 (J (jd_F line K from_ a b i) w') := fun w' h => ⟨HJ.out _ _ _ HJS.out (by rw [← HVB.out] at *; exact below_step HB2.out h)⟩
     clear hv hW2 f0 f1 hy1 hb2 hG2
     refine jh_begin (c := 27) (S := fun w' => JK w0.heap.size R W2 w') (by kernel_rfl) (fun _ => trivial) (by kernel_rfl) ?_
     refine jh_take (v := ?_) (by kernel_rfl) 0 hSW rfl (by decide) (by kernel_rfl) (by kernel_rfl) (by kernel_rfl) (fun _ _ _ h => h) (by rfl) ?_ ?_
     rotate_left
     ·intro w' hS'; obtain ⟨z0, z1, q0, q1, q3, b0, b1, l2⟩ := HC8 w' hS'; go_simp; try with_reducible rfl
     simp only [Act.put, List.setIfInBounds_toArray, List.set_cons_zero, List.set_cons_succ]
     refine jh_take (v := ?_) (by kernel_rfl) 1 hSW rfl (by decide) (by kernel_rfl) (by kernel_rfl) (by kernel_rfl) (fun _ _ _ h => h) (by rfl) ?_ ?_
     rotate_left
     ·intro w' hS'; obtain ⟨z0, z1, q0, q1, q3, b0, b1, l2⟩ := HC8 w' hS'; go_simp; try with_reducible rfl
     simp only [Act.put, List.setIfInBounds_toArray, List.set_cons_zero, List.set_cons_succ]
     refine jh_take (v := ?_) (by kernel_rfl) 2 hSW rfl (by decide) (by kernel_rfl) (by kernel_rfl) (by kernel_rfl) (fun _ _ _ h => h) (by rfl) ?_ ?_
     rotate_left
     ·intro w' hS'; obtain ⟨z0, z1, q0, q1, q3, b0, b1, l2⟩ := HC8 w' hS'; go_simp; try with_reducible rfl
     simp only [Act.put, List.setIfInBounds_toArray, List.set_cons_zero, List.set_cons_succ]
     refine jh_take (v := ?_) (by kernel_rfl) 3 hSW rfl (by decide) (by kernel_rfl) (by kernel_rfl) (by kernel_rfl) (fun _ _ _ h => h) (by rfl) ?_ ?_
     rotate_left
     ·intro w' hS'; obtain ⟨z0, z1, q0, q1, q3, b0, b1, l2⟩ := HC8 w' hS'; go_simp; try with_reducible rfl
     simp only [Act.put, List.setIfInBounds_toArray, List.set_cons_zero, List.set_cons_succ]
     refine jh_take (v := ?_) (by kernel_rfl) 4 hSW rfl (by decide) (by kernel_rfl) (by kernel_rfl) (by kernel_rfl) (fun _ _ _ h => h) (by rfl) ?_ ?_
     rotate_left
     ·intro w' hS'; obtain ⟨z0, z1, q0, q1, q3, b0, b1, l2⟩ := HC8 w' hS'; go_simp; try with_reducible rfl
     simp only [Act.put, List.setIfInBounds_toArray, List.set_cons_zero, List.set_cons_succ]
     refine jh_take (v := ?_) (by kernel_rfl) 5 hSW rfl (by decide) (by kernel_rfl) (by kernel_rfl) (by kernel_rfl) (fun _ _ _ h => h) (by rfl) ?_ ?_
     rotate_left
     ·intro w' hS'; obtain ⟨z0, z1, q0, q1, q3, b0, b1, l2⟩ := HC8 w' hS'; go_simp; try with_reducible rfl
     simp only [Act.put, List.setIfInBounds_toArray, List.set_cons_zero, List.set_cons_succ]
     by_cases hxv : x = v
     ·subst hxv
      refine jh_take (v := ?_) (by kernel_rfl) 6 hSW rfl (by decide) (by kernel_rfl) (by kernel_rfl) (by kernel_rfl) (fun _ _ _ h => h) (by rfl) ?_ ?_
      rotate_left
      ·intro w' hS'; obtain ⟨z0, z1, q0, q1, q3, b0, b1, l2⟩ := HC8 w' hS'; go_simp; try with_reducible rfl
      simp only [Act.put, List.setIfInBounds_toArray, List.set_cons_zero, List.set_cons_succ]
      refine jh_take (v := ?_) (by kernel_rfl) 7 hSW rfl (by decide) (by kernel_rfl) (by kernel_rfl) (by kernel_rfl) (fun _ _ _ h => h) (by rfl) ?_ ?_
      rotate_left
      ·intro w' hS'; obtain ⟨z0, z1, q0, q1, q3, b0, b1, l2⟩ := HC8 w' hS'; go_simp; try with_reducible rfl
      simp only [Act.put, List.setIfInBounds_toArray, List.set_cons_zero, List.set_cons_succ]
      refine jh_take (v := ?_) (by kernel_rfl) 8 hSW rfl (by decide) (by kernel_rfl) (by kernel_rfl) (by kernel_rfl) (fun _ _ _ h => h) (by rfl) ?_ ?_
      rotate_left
      ·intro w' hS'; obtain ⟨z0, z1, q0, q1, q3, b0, b1, l2⟩ := HC8 w' hS'; go_simp; try with_reducible rfl
      simp only [Act.put, List.setIfInBounds_toArray, List.set_cons_zero, List.set_cons_succ]
      refine jh_take (v := ?_) (by kernel_rfl) 9 hSW rfl (by decide) (by kernel_rfl) (by kernel_rfl) (by kernel_rfl) (fun _ _ _ h => h) (by rfl) ?_ ?_
      rotate_left
      ·intro w' hS'; obtain ⟨z0, z1, q0, q1, q3, b0, b1, l2⟩ := HC8 w' hS'; go_simp; try with_reducible rfl
      simp only [Act.put, List.setIfInBounds_toArray, List.set_cons_zero, List.set_cons_succ]
      obtain ⟨sb, hsb⟩ : ∃ sb, jd_s x.f0 = sb := ⟨_, rfl⟩
      have hfd : ∀ W : World, (Instr.field 116 (.agg #[.bool (jd_s x.f0), .func (.func (jd_m x.f0)) #[] #[]]) 0).run Tryd.prog W = .ok (.bool sb) W := fun W => by rw [hsb]; exact jd_field0 _ _ W
      have HS := Aside0.mk hsb
      clear hsb
      refine jh_call 10 (by kernel_rfl) rfl (by decide) (by rfl) (fun K_ hK => ?_)
      go_simp
      refine ⟨trivial, fun _ => Nat.le_of_succ_le hn, ?_⟩
      refine (callsIn_wide.2 (jd_ruleOf x.f0 _ HG2.out)).mono ?_
      rintro e w5 ⟨rfl, hb5⟩
      have HB5 := Aside0.mk (below_step (below_drew (Below.refl W2.heap.size W2)) hb5)
      clear hb5 hSW
      have hSW : JK w0.heap.size R W2 w5 := JK.of_below HB5.out
      refine hK.out _ _ hSW ?_
      clear hK K_
      try simp only [Act.put, List.setIfInBounds_toArray, List.set_cons_zero, List.set_cons_succ]
      cases sb
      ·skip
       refine jh_take (v := ?_) (by kernel_rfl) 11 hSW rfl (by decide) (by kernel_rfl) (by kernel_rfl) (by kernel_rfl) (fun _ _ _ h => h) (by rfl) ?_ ?_
       rotate_left
       ·intro w' hS'; obtain ⟨z0, z1, q0, q1, q3, b0, b1, l2⟩ := HC8 w' hS'; go_simp; try with_reducible rfl
       simp only [Act.put, List.setIfInBounds_toArray, List.set_cons_zero, List.set_cons_succ]
       refine jh_take (v := ?_) (by kernel_rfl) 12 hSW rfl (by decide) (by kernel_rfl) (by kernel_rfl) (by kernel_rfl) (fun _ _ _ h => h) (by rfl) ?_ ?_
       rotate_left
       ·intro w' hS'; obtain ⟨z0, z1, q0, q1, q3, b0, b1, l2⟩ := HC8 w' hS'; go_simp; try with_reducible rfl
       simp only [Act.put, List.setIfInBounds_toArray, List.set_cons_zero, List.set_cons_succ]
       refine jh_take (v := ?_) (by kernel_rfl) 13 hSW rfl (by decide) (by kernel_rfl) (by kernel_rfl) (by kernel_rfl) (fun _ _ _ h => h) (by rfl) ?_ ?_
       rotate_left
       ·intro w' hS'; obtain ⟨z0, z1, q0, q1, q3, b0, b1, l2⟩ := HC8 w' hS'; go_simp; try with_reducible rfl
       simp only [Act.put, List.setIfInBounds_toArray, List.set_cons_zero, List.set_cons_succ]
       refine jh_skip (by kernel_rfl) 14 hSW rfl (by decide) (by kernel_rfl) (by kernel_rfl) (by kernel_rfl) (fun _ _ _ h => h) (by rfl) ?_
       simp only [Act.put, List.setIfInBounds_toArray, List.set_cons_zero, List.set_cons_succ]
       refine jh_skip (by kernel_rfl) 15 hSW rfl (by decide) (by kernel_rfl) (by kernel_rfl) (by kernel_rfl) (fun _ _ _ h => h) (by rfl) ?_
       simp only [Act.put, List.setIfInBounds_toArray, List.set_cons_zero, List.set_cons_succ]
       refine jh_skip (by kernel_rfl) 16 hSW rfl (by decide) (by kernel_rfl) (by kernel_rfl) (by kernel_rfl) (fun _ _ _ h => h) (by rfl) ?_
       simp only [Act.put, List.setIfInBounds_toArray, List.set_cons_zero, List.set_cons_succ]
       refine jh_skip (by kernel_rfl) 17 hSW rfl (by decide) (by kernel_rfl) (by kernel_rfl) (by kernel_rfl) (fun _ _ _ h => h) (by rfl) ?_
       simp only [Act.put, List.setIfInBounds_toArray, List.set_cons_zero, List.set_cons_succ]
       refine jh_skip (by kernel_rfl) 18 hSW rfl (by decide) (by kernel_rfl) (by kernel_rfl) (by kernel_rfl) (fun _ _ _ h => h) (by rfl) ?_
       simp only [Act.put, List.setIfInBounds_toArray, List.set_cons_zero, List.set_cons_succ]
       refine jh_skip (by kernel_rfl) 19 hSW rfl (by decide) (by kernel_rfl) (by kernel_rfl) (by kernel_rfl) (fun _ _ _ h => h) (by rfl) ?_
       simp only [Act.put, List.setIfInBounds_toArray, List.set_cons_zero, List.set_cons_succ]
       refine jh_skip (by kernel_rfl) 20 hSW rfl (by decide) (by kernel_rfl) (by kernel_rfl) (by kernel_rfl) (fun _ _ _ h => h) (by rfl) ?_
       simp only [Act.put, List.setIfInBounds_toArray, List.set_cons_zero, List.set_cons_succ]
       refine jh_skip (by kernel_rfl) 21 hSW rfl (by decide) (by kernel_rfl) (by kernel_rfl) (by kernel_rfl) (fun _ _ _ h => h) (by rfl) ?_
       simp only [Act.put, List.setIfInBounds_toArray, List.set_cons_zero, List.set_cons_succ]
       refine jh_skip (by kernel_rfl) 22 hSW rfl (by decide) (by kernel_rfl) (by kernel_rfl) (by kernel_rfl) (fun _ _ _ h => h) (by rfl) ?_
       simp only [Act.put, List.setIfInBounds_toArray, List.set_cons_zero, List.set_cons_succ]
       refine jh_skip (by kernel_rfl) 23 hSW rfl (by decide) (by kernel_rfl) (by kernel_rfl) (by kernel_rfl) (fun _ _ _ h => h) (by rfl) ?_
       simp only [Act.put, List.setIfInBounds_toArray, List.set_cons_zero, List.set_cons_succ]
       refine jh_skip (by kernel_rfl) 24 hSW rfl (by decide) (by kernel_rfl) (by kernel_rfl) (by kernel_rfl) (fun _ _ _ h => h) (by rfl) ?_
       simp only [Act.put, List.setIfInBounds_toArray, List.set_cons_zero, List.set_cons_succ]
       refine jh_skip (by kernel_rfl) 25 hSW rfl (by decide) (by kernel_rfl) (by kernel_rfl) (by kernel_rfl) (fun _ _ _ h => h) (by rfl) ?_
       simp only [Act.put, List.setIfInBounds_toArray, List.set_cons_zero, List.set_cons_succ]
       refine jh_skip (by kernel_rfl) 26 hSW rfl (by decide) (by kernel_rfl) (by kernel_rfl) (by kernel_rfl) (fun _ _ _ h => h) (by rfl) ?_
       simp only [Act.put, List.setIfInBounds_toArray, List.set_cons_zero, List.set_cons_succ]
       refine jh_last_skip (by kernel_rfl) rfl (by rfl) ?_
       simp only [Act.put, List.setIfInBounds_toArray, List.set_cons_zero, List.set_cons_succ]
       refine jh_skip2 28 rfl (by kernel_rfl) (by kernel_rfl) (by kernel_rfl) (fun _ _ _ h => h) (by rfl) (fun _ => rfl) ?_
       simp only [Act.put, List.setIfInBounds_toArray, List.set_cons_zero, List.set_cons_succ]
       refine jh_take2 (v := ?_) 29 rfl (by kernel_rfl) (by kernel_rfl) (by kernel_rfl) (fun _ _ _ h => h) (by rfl) ?_ (fun _ => rfl) ?_
       rotate_left
       ·intro w'; go_simp; try with_reducible rfl
       simp only [Act.put, List.setIfInBounds_toArray, List.set_cons_zero, List.set_cons_succ]
       have HF := Aside0.mk (show jd_F line K from_ a b (i + 1) = jd_F line K from_ a b i by rw [jd_F_succ]; unfold jd_fact; rw [HX.out, HVV.out, if_neg (fun h => by rw [HS.out] at h; exact absurd h.2.2 (by decide)), List.append_nil])
       refine wpAnyIn_done (by kernel_rfl) ?_ _
       gi_wp2
       go_roundw
       case rel => exact ⟨i + 1, k', by omega, by go_num, rfl, by have := HK4.out i; have := HKK.out; omega, by rw [HF.out]; exact (hfin _ HB5.out).out, ⟨HK2'.out.trans hSW⟩⟩
       case measure => simp [intOf]; omega
      ·skip
       refine jh_take (v := ?_) (by kernel_rfl) 11 hSW rfl (by decide) (by kernel_rfl) (by kernel_rfl) (by kernel_rfl) (fun _ _ _ h => h) (by rfl) ?_ ?_
       rotate_left
       ·intro w' hS'; obtain ⟨z0, z1, q0, q1, q3, b0, b1, l2⟩ := HC8 w' hS'; go_simp; try with_reducible rfl
       simp only [Act.put, List.setIfInBounds_toArray, List.set_cons_zero, List.set_cons_succ]
       refine jh_take (v := ?_) (by kernel_rfl) 12 hSW rfl (by decide) (by kernel_rfl) (by kernel_rfl) (by kernel_rfl) (fun _ _ _ h => h) (by rfl) ?_ ?_
       rotate_left
       ·intro w' hS'; obtain ⟨z0, z1, q0, q1, q3, b0, b1, l2⟩ := HC8 w' hS'; go_simp; try with_reducible rfl
       simp only [Act.put, List.setIfInBounds_toArray, List.set_cons_zero, List.set_cons_succ]
       refine jh_take (v := ?_) (by kernel_rfl) 13 hSW rfl (by decide) (by kernel_rfl) (by kernel_rfl) (by kernel_rfl) (fun _ _ _ h => h) (by rfl) ?_ ?_
       rotate_left
       ·intro w' hS'; obtain ⟨z0, z1, q0, q1, q3, b0, b1, l2⟩ := HC8 w' hS'; go_simp; try with_reducible rfl
       simp only [Act.put, List.setIfInBounds_toArray, List.set_cons_zero, List.set_cons_succ]
       refine jh_take (v := ?_) (by kernel_rfl) 14 hSW rfl (by decide) (by kernel_rfl) (by kernel_rfl) (by kernel_rfl) (fun _ _ _ h => h) (by rfl) ?_ ?_
       rotate_left
       ·intro w' hS'; obtain ⟨z0, z1, q0, q1, q3, b0, b1, l2⟩ := HC8 w' hS'; go_simp; try with_reducible rfl
       simp only [Act.put, List.setIfInBounds_toArray, List.set_cons_zero, List.set_cons_succ]
       refine jh_take (v := ?_) (by kernel_rfl) 15 hSW rfl (by decide) (by kernel_rfl) (by kernel_rfl) (by kernel_rfl) (fun _ _ _ h => h) (by rfl) ?_ ?_
       rotate_left
       ·intro w' hS'; obtain ⟨z0, z1, q0, q1, q3, b0, b1, l2⟩ := HC8 w' hS'; go_simp; try with_reducible rfl
       simp only [Act.put, List.setIfInBounds_toArray, List.set_cons_zero, List.set_cons_succ]
       refine jh_take (v := ?_) (by kernel_rfl) 16 hSW rfl (by decide) (by kernel_rfl) (by kernel_rfl) (by kernel_rfl) (fun _ _ _ h => h) (by rfl) ?_ ?_
       rotate_left
       ·intro w' hS'; obtain ⟨z0, z1, q0, q1, q3, b0, b1, l2⟩ := HC8 w' hS'; go_simp; try with_reducible rfl
       simp only [Act.put, List.setIfInBounds_toArray, List.set_cons_zero, List.set_cons_succ]
       refine jh_take (v := ?_) (by kernel_rfl) 17 hSW rfl (by decide) (by kernel_rfl) (by kernel_rfl) (by kernel_rfl) (fun _ _ _ h => h) (by rfl) ?_ ?_
       rotate_left
       ·intro w' hS'; obtain ⟨z0, z1, q0, q1, q3, b0, b1, l2⟩ := HC8 w' hS'; go_simp; try with_reducible rfl
       simp only [Act.put, List.setIfInBounds_toArray, List.set_cons_zero, List.set_cons_succ]
       refine jh_take (v := ?_) (by kernel_rfl) 18 hSW rfl (by decide) (by kernel_rfl) (by kernel_rfl) (by kernel_rfl) (fun _ _ _ h => h) (by rfl) ?_ ?_
       rotate_left
       ·intro w' hS'; obtain ⟨z0, z1, q0, q1, q3, b0, b1, l2⟩ := HC8 w' hS'; go_simp; try with_reducible rfl
       simp only [Act.put, List.setIfInBounds_toArray, List.set_cons_zero, List.set_cons_succ]
       refine jh_take (v := ?_) (by kernel_rfl) 19 hSW rfl (by decide) (by kernel_rfl) (by kernel_rfl) (by kernel_rfl) (fun _ _ _ h => h) (by rfl) ?_ ?_
       rotate_left
       ·intro w' hS'; obtain ⟨z0, z1, q0, q1, q3, b0, b1, l2⟩ := HC8 w' hS'; go_simp; try with_reducible rfl
       simp only [Act.put, List.setIfInBounds_toArray, List.set_cons_zero, List.set_cons_succ]
       refine jh_take (v := ?_) (by kernel_rfl) 20 hSW rfl (by decide) (by kernel_rfl) (by kernel_rfl) (by kernel_rfl) (fun _ _ _ h => h) (by rfl) ?_ ?_
       rotate_left
       ·intro w' hS'; obtain ⟨z0, z1, q0, q1, q3, b0, b1, l2⟩ := HC8 w' hS'; go_simp; try with_reducible rfl
       simp only [Act.put, List.setIfInBounds_toArray, List.set_cons_zero, List.set_cons_succ]
       refine jh_take (v := ?_) (by kernel_rfl) 21 hSW rfl (by decide) (by kernel_rfl) (by kernel_rfl) (by kernel_rfl) (fun _ _ _ h => h) (by rfl) ?_ ?_
       rotate_left
       ·intro w' hS'; obtain ⟨z0, z1, q0, q1, q3, b0, b1, l2⟩ := HC8 w' hS'; go_simp; try with_reducible rfl
       simp only [Act.put, List.setIfInBounds_toArray, List.set_cons_zero, List.set_cons_succ]
       refine jh_take (v := ?_) (by kernel_rfl) 22 hSW rfl (by decide) (by kernel_rfl) (by kernel_rfl) (by kernel_rfl) (fun _ _ _ h => h) (by rfl) ?_ ?_
       rotate_left
       ·intro w' hS'; obtain ⟨z0, z1, q0, q1, q3, b0, b1, l2⟩ := HC8 w' hS'; go_simp; try with_reducible rfl
       simp only [Act.put, List.setIfInBounds_toArray, List.set_cons_zero, List.set_cons_succ]
       refine jh_take (v := ?_) (by kernel_rfl) 23 hSW rfl (by decide) (by kernel_rfl) (by kernel_rfl) (by kernel_rfl) (fun _ _ _ h => h) (by rfl) ?_ ?_
       rotate_left
       ·intro w' hS'; obtain ⟨z0, z1, q0, q1, q3, b0, b1, l2⟩ := HC8 w' hS'; go_simp; try with_reducible rfl
       simp only [Act.put, List.setIfInBounds_toArray, List.set_cons_zero, List.set_cons_succ]
       refine jh_take (v := ?_) (by kernel_rfl) 24 hSW rfl (by decide) (by kernel_rfl) (by kernel_rfl) (by kernel_rfl) (fun _ _ _ h => h) (by rfl) ?_ ?_
       rotate_left
       ·intro w' hS'; obtain ⟨z0, z1, q0, q1, q3, b0, b1, l2⟩ := HC8 w' hS'; go_simp; try with_reducible rfl
       simp only [Act.put, List.setIfInBounds_toArray, List.set_cons_zero, List.set_cons_succ]
       refine jh_take (v := ?_) (by kernel_rfl) 25 hSW rfl (by decide) (by kernel_rfl) (by kernel_rfl) (by kernel_rfl) (fun _ _ _ h => h) (by rfl) ?_ ?_
       rotate_left
       ·intro w' hS'; obtain ⟨z0, z1, q0, q1, q3, b0, b1, l2⟩ := HC8 w' hS'; go_simp; try with_reducible rfl
       simp only [Act.put, List.setIfInBounds_toArray, List.set_cons_zero, List.set_cons_succ]
       refine jh_take (v := ?_) (by kernel_rfl) 26 hSW rfl (by decide) (by kernel_rfl) (by kernel_rfl) (by kernel_rfl) (fun _ _ _ h => h) (by rfl) ?_ ?_
       rotate_left
       ·intro w' hS'; obtain ⟨z0, z1, q0, q1, q3, b0, b1, l2⟩ := HC8 w' hS'; go_simp; try with_reducible rfl
       simp only [Act.put, List.setIfInBounds_toArray, List.set_cons_zero, List.set_cons_succ]
       have HF2 := Aside0.mk (show jd_F line K from_ a b (i + 1) = jd_F line K from_ a b i ++ [(from_ + i, y.f2, x)] by rw [jd_F_succ]; unfold jd_fact; rw [HX.out, HVV.out, if_pos ⟨rfl, rfl, HS.out⟩, ← HKK.out, HY1.out])
       obtain ⟨fn, tmps, assign, body, hy, hR⟩ := HY.out (jd_F line K from_ a b i) (from_ + i, y.f2, x) w5 (hfin _ HB5.out).out (Nat.lt_of_le_of_lt (jd_F_len _ _ _ _ _ _) hlt)
       have hy' : (Instr.yield l #[.agg #[.int .i64 (from_ + i), .int .i64 y.f2, .int .i64 x.f0, .int .i64 x.f1]]).run Tryd.prog w5 = .ok (.round l fn tmps assign body) w5 := hy
       refine jh_last (by kernel_rfl) rfl (by rfl) (fun K_ hK => ?_)
       go_simp
       refine ⟨fun _ => Nat.le_of_succ_le hn, hR.mono ?_⟩
       rintro e W3 (⟨rfl, hJ3, hk3⟩ | ⟨rfl, hJx3⟩)
       ·refine hK.out _ _ ?_
        try simp only [Act.put, List.setIfInBounds_toArray, List.set_cons_zero, List.set_cons_succ]
        refine jh_take2 (v := ?_) 28 rfl (by kernel_rfl) (by kernel_rfl) (by kernel_rfl) (fun _ _ _ h => h) (by rfl) ?_ (fun _ => rfl) ?_
        rotate_left
        ·intro w'; go_simp; try with_reducible rfl
        simp only [Act.put, List.setIfInBounds_toArray, List.set_cons_zero, List.set_cons_succ]
        refine jh_take2 (v := ?_) 29 rfl (by kernel_rfl) (by kernel_rfl) (by kernel_rfl) (fun _ _ _ h => h) (by rfl) ?_ (fun _ => rfl) ?_
        rotate_left
        ·intro w'; go_simp; try with_reducible rfl
        simp only [Act.put, List.setIfInBounds_toArray, List.set_cons_zero, List.set_cons_succ]
        refine wpAnyIn_done (by kernel_rfl) ?_ _
        gi_wp2
        go_roundw
        case rel => exact ⟨i + 1, k', by omega, by go_num, rfl, by have := HK4.out i; have := HKK.out; omega, by rw [HF2.out]; exact hJ3, ⟨(HK2'.out.trans hSW).trans hk3⟩⟩
        case measure => simp [intOf]; omega
       ·refine hK.out _ _ ?_
        try simp only [Act.put, List.setIfInBounds_toArray, List.set_cons_zero, List.set_cons_succ]
        refine jh_take2 (v := ?_) 28 rfl (by kernel_rfl) (by kernel_rfl) (by kernel_rfl) (fun _ _ _ h => h) (by rfl) ?_ (fun _ => rfl) ?_
        rotate_left
        ·intro w'; go_simp; try with_reducible rfl
        simp only [Act.put, List.setIfInBounds_toArray, List.set_cons_zero, List.set_cons_succ]
        refine jh_take2 (v := ?_) 29 rfl (by kernel_rfl) (by kernel_rfl) (by kernel_rfl) (fun _ _ _ h => h) (by rfl) ?_ (fun _ => rfl) ?_
        rotate_left
        ·intro w'; go_simp; try with_reducible rfl
        simp only [Act.put, List.setIfInBounds_toArray, List.set_cons_zero, List.set_cons_succ]
        refine wpAnyIn_done (by kernel_rfl) ?_ _
        gi_wp2
        refine bodyPost_ret (results_none rfl _ _ _) rfl ?_
        refine ⟨⟨_, rfl⟩, .inr ⟨_, ?_, hJx3⟩⟩
        rw [← HF2.out]
        have := jd_F_pre line K from_ a b (i + 1) (a.length - (i + 1))
        rwa [show i + 1 + (a.length - (i + 1)) = a.length by omega] at this
     ·have hne : x.f0 = v.f0 → ¬ x.f1 = v.f1 := fun h0 h1 => hxv (by cases x; cases v; simp_all)
      clear hxv
      refine jh_take (v := .bool false) (by kernel_rfl) 6 hSW rfl (by decide) (by kernel_rfl) (by kernel_rfl) (by kernel_rfl) (fun _ _ _ h => h) (by rfl) ?_ ?_
      ·intro w' hS'; go_simp; exact hne
      simp only [Act.put, List.setIfInBounds_toArray, List.set_cons_zero, List.set_cons_succ]
      refine jh_take (v := ?_) (by kernel_rfl) 7 hSW rfl (by decide) (by kernel_rfl) (by kernel_rfl) (by kernel_rfl) (fun _ _ _ h => h) (by rfl) ?_ ?_
      rotate_left
      ·intro w' hS'; obtain ⟨z0, z1, q0, q1, q3, b0, b1, l2⟩ := HC8 w' hS'; go_simp; try with_reducible rfl
      simp only [Act.put, List.setIfInBounds_toArray, List.set_cons_zero, List.set_cons_succ]
      refine jh_skip (by kernel_rfl) 8 hSW rfl (by decide) (by kernel_rfl) (by kernel_rfl) (by kernel_rfl) (fun _ _ _ h => h) (by rfl) ?_
      simp only [Act.put, List.setIfInBounds_toArray, List.set_cons_zero, List.set_cons_succ]
      refine jh_skip (by kernel_rfl) 9 hSW rfl (by decide) (by kernel_rfl) (by kernel_rfl) (by kernel_rfl) (fun _ _ _ h => h) (by rfl) ?_
      simp only [Act.put, List.setIfInBounds_toArray, List.set_cons_zero, List.set_cons_succ]
      refine jh_skip (by kernel_rfl) 10 hSW rfl (by decide) (by kernel_rfl) (by kernel_rfl) (by kernel_rfl) (fun _ _ _ h => h) (by rfl) ?_
      simp only [Act.put, List.setIfInBounds_toArray, List.set_cons_zero, List.set_cons_succ]
      refine jh_skip (by kernel_rfl) 11 hSW rfl (by decide) (by kernel_rfl) (by kernel_rfl) (by kernel_rfl) (fun _ _ _ h => h) (by rfl) ?_
      simp only [Act.put, List.setIfInBounds_toArray, List.set_cons_zero, List.set_cons_succ]
      refine jh_take (v := ?_) (by kernel_rfl) 12 hSW rfl (by decide) (by kernel_rfl) (by kernel_rfl) (by kernel_rfl) (fun _ _ _ h => h) (by rfl) ?_ ?_
      rotate_left
      ·intro w' hS'; obtain ⟨z0, z1, q0, q1, q3, b0, b1, l2⟩ := HC8 w' hS'; go_simp; try with_reducible rfl
      simp only [Act.put, List.setIfInBounds_toArray, List.set_cons_zero, List.set_cons_succ]
      refine jh_take (v := ?_) (by kernel_rfl) 13 hSW rfl (by decide) (by kernel_rfl) (by kernel_rfl) (by kernel_rfl) (fun _ _ _ h => h) (by rfl) ?_ ?_
      rotate_left
      ·intro w' hS'; obtain ⟨z0, z1, q0, q1, q3, b0, b1, l2⟩ := HC8 w' hS'; go_simp; try with_reducible rfl
      simp only [Act.put, List.setIfInBounds_toArray, List.set_cons_zero, List.set_cons_succ]
      refine jh_skip (by kernel_rfl) 14 hSW rfl (by decide) (by kernel_rfl) (by kernel_rfl) (by kernel_rfl) (fun _ _ _ h => h) (by rfl) ?_
      simp only [Act.put, List.setIfInBounds_toArray, List.set_cons_zero, List.set_cons_succ]
      refine jh_skip (by kernel_rfl) 15 hSW rfl (by decide) (by kernel_rfl) (by kernel_rfl) (by kernel_rfl) (fun _ _ _ h => h) (by rfl) ?_
      simp only [Act.put, List.setIfInBounds_toArray, List.set_cons_zero, List.set_cons_succ]
      refine jh_skip (by kernel_rfl) 16 hSW rfl (by decide) (by kernel_rfl) (by kernel_rfl) (by kernel_rfl) (fun _ _ _ h => h) (by rfl) ?_
      simp only [Act.put, List.setIfInBounds_toArray, List.set_cons_zero, List.set_cons_succ]
      refine jh_skip (by kernel_rfl) 17 hSW rfl (by decide) (by kernel_rfl) (by kernel_rfl) (by kernel_rfl) (fun _ _ _ h => h) (by rfl) ?_
      simp only [Act.put, List.setIfInBounds_toArray, List.set_cons_zero, List.set_cons_succ]
      refine jh_skip (by kernel_rfl) 18 hSW rfl (by decide) (by kernel_rfl) (by kernel_rfl) (by kernel_rfl) (fun _ _ _ h => h) (by rfl) ?_
      simp only [Act.put, List.setIfInBounds_toArray, List.set_cons_zero, List.set_cons_succ]
      refine jh_skip (by kernel_rfl) 19 hSW rfl (by decide) (by kernel_rfl) (by kernel_rfl) (by kernel_rfl) (fun _ _ _ h => h) (by rfl) ?_
      simp only [Act.put, List.setIfInBounds_toArray, List.set_cons_zero, List.set_cons_succ]
      refine jh_skip (by kernel_rfl) 20 hSW rfl (by decide) (by kernel_rfl) (by kernel_rfl) (by kernel_rfl) (fun _ _ _ h => h) (by rfl) ?_
      simp only [Act.put, List.setIfInBounds_toArray, List.set_cons_zero, List.set_cons_succ]
      refine jh_skip (by kernel_rfl) 21 hSW rfl (by decide) (by kernel_rfl) (by kernel_rfl) (by kernel_rfl) (fun _ _ _ h => h) (by rfl) ?_
      simp only [Act.put, List.setIfInBounds_toArray, List.set_cons_zero, List.set_cons_succ]
      refine jh_skip (by kernel_rfl) 22 hSW rfl (by decide) (by kernel_rfl) (by kernel_rfl) (by kernel_rfl) (fun _ _ _ h => h) (by rfl) ?_
      simp only [Act.put, List.setIfInBounds_toArray, List.set_cons_zero, List.set_cons_succ]
      refine jh_skip (by kernel_rfl) 23 hSW rfl (by decide) (by kernel_rfl) (by kernel_rfl) (by kernel_rfl) (fun _ _ _ h => h) (by rfl) ?_
      simp only [Act.put, List.setIfInBounds_toArray, List.set_cons_zero, List.set_cons_succ]
      refine jh_skip (by kernel_rfl) 24 hSW rfl (by decide) (by kernel_rfl) (by kernel_rfl) (by kernel_rfl) (fun _ _ _ h => h) (by rfl) ?_
      simp only [Act.put, List.setIfInBounds_toArray, List.set_cons_zero, List.set_cons_succ]
      refine jh_skip (by kernel_rfl) 25 hSW rfl (by decide) (by kernel_rfl) (by kernel_rfl) (by kernel_rfl) (fun _ _ _ h => h) (by rfl) ?_
      simp only [Act.put, List.setIfInBounds_toArray, List.set_cons_zero, List.set_cons_succ]
      refine jh_skip (by kernel_rfl) 26 hSW rfl (by decide) (by kernel_rfl) (by kernel_rfl) (by kernel_rfl) (fun _ _ _ h => h) (by rfl) ?_
      simp only [Act.put, List.setIfInBounds_toArray, List.set_cons_zero, List.set_cons_succ]
      refine jh_last_skip (by kernel_rfl) rfl (by rfl) ?_
      simp only [Act.put, List.setIfInBounds_toArray, List.set_cons_zero, List.set_cons_succ]
      refine jh_skip2 28 rfl (by kernel_rfl) (by kernel_rfl) (by kernel_rfl) (fun _ _ _ h => h) (by rfl) (fun _ => rfl) ?_
      simp only [Act.put, List.setIfInBounds_toArray, List.set_cons_zero, List.set_cons_succ]
      refine jh_take2 (v := ?_) 29 rfl (by kernel_rfl) (by kernel_rfl) (by kernel_rfl) (fun _ _ _ h => h) (by rfl) ?_ (fun _ => rfl) ?_
      rotate_left
      ·intro w'; go_simp; try with_reducible rfl
      simp only [Act.put, List.setIfInBounds_toArray, List.set_cons_zero, List.set_cons_succ]
      have HF := Aside0.mk (show jd_F line K from_ a b (i + 1) = jd_F line K from_ a b i by rw [jd_F_succ]; unfold jd_fact; rw [HX.out, HVV.out, if_neg (fun h => hne h.1 h.2.1), List.append_nil])
      refine wpAnyIn_done (by kernel_rfl) ?_ _
      gi_wp2
      go_roundw
      case rel => exact ⟨i + 1, k', by omega, by go_num, rfl, by have := HK4.out i; have := HKK.out; omega, by rw [HF.out]; exact (hfin _ (below_drew (Below.refl _ _))).out, ⟨HK2'.out.trans hSW⟩⟩
      case measure => simp [intOf]; omega
  ·obtain rfl : i = a.length := by omega
   have hJs' := Aside0.mk hJs
   clear hJs
   gi_wp2
   go_end0
   exact ⟨⟨_, rfl⟩, .inl ⟨_, rfl, hJs'.out⟩⟩

end Go.Proofs.YtglcdgalimgkeaaDoor.PJB
