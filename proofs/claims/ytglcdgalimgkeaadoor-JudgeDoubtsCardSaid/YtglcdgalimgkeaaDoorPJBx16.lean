-- PRINTED by print.py (a twelfth state) out of the translation. Not trusted: Lean checks it.
import Derived.Test.YtglcdgalimgkeaaDoorPJBx0
import Derived.Test.YtglcdgalimgkeaaDoorPJBx6
import Derived.Test.YtglcdgalimgkeaaDoorPJBx10
import Derived.Test.YtglcdgalimgkeaaDoorPJBx11
import Derived.Test.YtglcdgalimgkeaaDoorPJBx12
import Derived.Test.YtglcdgalimgkeaaDoorPJBx14
import Derived.Test.YtglcdgalimgkeaaDoorPJBx15
import Derived.RangeFuncNested
import Derived.RangeFuncBound
import Derived.RangeFuncCalls
import Derived.RangeFuncLeaves
import Derived.RangeFuncBox
import Derived.Shelf.Abstract
import Derived.Shelf.RegionOpen
import Derived.OwnWalkIn
import Derived.TacticsInMore
import Derived.LoopNIn
import Derived.LoopIn
import Derived.OneCell
import Derived.BigQuiet
import Derived.Deep.RegionWith
import Derived.Deep.RegionHeld3
import Derived.Deep.RegionLaw
import Derived.IntWalk
import Derived.Lib.SliceRun
import Derived.Laws.EntriesVeiled
import Derived.Sort.QuietIn
import Derived.Deep.RegionLawGrows
namespace Go.Proofs.YtglcdgalimgkeaaDoor.PJB
open Go.RowKit Go.Proofs.YtglcdgalimgkeaaDoorW.PrintWords Go.Proofs.YtglcdgalimgkeaaDoorW.PrintLast Go.Proofs.YtglcdgalimgkeaaDoorW.PrintMore
attribute [local go_sem] max2_int min2_int max_two min_two max_three min_three max_four min_four   -- for this text's walks alone
set_option linter.unusedVariables false
set_option linter.unusedSimpArgs false

attribute [local go_sem] Oper.semAt_some
open Go.Shelf
-- given by hand: jd4
/-! What Judge answers. -/
def jd_A (owner kd it : Int) (known : List Int) : Bool := (judge_Against.f (known.length + 3) owner kd it known).getD false
theorem jd_idx (l : List Int) (a : Int) (hn : l.length ≤ 9223372036854775807) : ∀ (d i k : Nat), i + d = l.length → d < k → ∃ r, slices_Index_int_int.l0 k l a (l.length : Int) (i : Int) = some r
 | d, i, 0, _, h => absurd h (by omega)
 | 0, i, k + 1, hi, _ => ⟨-1, by unfold slices_Index_int_int.l0; rw [if_neg (by omega)]⟩
 | d + 1, i, k + 1, hi, hk => by
  unfold slices_Index_int_int.l0
  rw [if_pos (by omega), if_pos (by omega), if_pos (by omega)]
  by_cases h : a = rd l (i : Int)
  ·exact ⟨_, by rw [if_pos h]⟩
  ·rw [if_neg h, jd_w (by omega) (by omega), show (i : Int) + 1 = ((i + 1 : Nat) : Int) by omega]
   exact jd_idx l a hn d (i + 1) k (by omega) (by omega)
theorem jd_vv1 (k : Nat) (a b : Int) : ∃ r, heard_ValidVerdicts.f (k + 2) [⟨a, b⟩] = some r := by
 unfold heard_ValidVerdicts.f heard_ValidVerdicts.l0
 have e : ∀ y, heard_ValidVerdicts.l0 (k + 1) [⟨a, b⟩] [⟨a, b⟩] (([⟨a, b⟩] : List S54).length : Int) (wrap64 (0 + 1)) = some y ↔ y = true := by
  intro y
  unfold heard_ValidVerdicts.l0
  rw [jd_w (by omega) (by omega), if_neg (by simp)]
  simp [eq_comm]
 have e1 := (e true).2 rfl
 rw [if_pos (by simp), if_pos (by omega), if_pos (by simp), e1]
 repeat' split
 all_goals exact ⟨_, rfl⟩
theorem jd_A_f (owner kd it : Int) (known : List Int) (hn : known.length ≤ 9223372036854775807) : judge_Against.f (known.length + 3) owner kd it known = some (jd_A owner kd it known) := by
 unfold jd_A
 suffices h : ∃ r, judge_Against.f (known.length + 3) owner kd it known = some r by
  obtain ⟨r, h⟩ := h
  rw [h]
  rfl
 unfold judge_Against.f
 obtain ⟨v, hv⟩ := jd_vv1 (known.length + 1) kd it
 rw [hv, Option.bind_some]
 obtain ⟨j, hj⟩ := jd_idx known (wrap64 (owner - 1)) hn known.length 0 (known.length + 3) (by omega) (by omega)
 have hc : slices_Contains_int_int.f (known.length + 3) known (wrap64 (owner - 1)) = some (decide (j ≥ 0)) := by
  unfold slices_Contains_int_int.f slices_Index_int_int.f
  rw [show (0 : Int) = ((0 : Nat) : Int) from rfl, hj]
  rfl
 rw [hc]
 repeat' split
 all_goals exact ⟨_, rfl⟩
def jd_add (r : Int × Int × Int) (t : Int) (g : Bool) : Int × Int × Int := if g = true then ((if r.2.2 = 0 then t else r.1), wrap64 (r.2.1 + 1), wrap64 (r.2.2 + 1)) else (r.1, wrap64 (r.2.1 + 1), r.2.2)
def jd_run (known : List Int) (xs : List JF) : Int × Int × Int := xs.foldl (fun r x => jd_add r x.1 (jd_A x.2.1 x.2.2.f0 x.2.2.f1 known)) (-1, 0, 0)
theorem jd_run_snoc (known : List Int) (xs : List JF) (x : JF) : jd_run known (xs ++ [x]) = jd_add (jd_run known xs) x.1 (jd_A x.2.1 x.2.2.f0 x.2.2.f1 known) := by
 unfold jd_run
 rw [List.foldl_append, List.foldl_cons, List.foldl_nil]
def jd_res (line : List S74) (from_ : Int) (a b : List S54) (known : List Int) : Int × Int × Int := jd_run known (jd_F line (jd_K line from_) from_ a b a.length)
def judge_Judge.f (k : Nat) (l0 : List S74) (a1 : Int) (l2 l3 : List S54) (l4 : List Int) : Option (Bool × Int × Int × Int × Int) := (judge_evidence_valid.f k l0 a1 l2 l3).bind fun v => if v = true then some ((jd_res l0 a1 l2 l3 l4).2.2 == 0, (jd_res l0 a1 l2 l3 l4).1, (jd_res l0 a1 l2 l3 l4).2.1, (jd_res l0 a1 l2 l3 l4).2.2, 0) else some (false, 0, 0, 0, 380)
theorem judge_Judge.mono : ∀ l0 a1 l2 l3 l4 k, LeO (judge_Judge.f k l0 a1 l2 l3 l4) (judge_Judge.f (k + 1) l0 a1 l2 l3 l4) := by
 intro l0 a1 l2 l3 l4 k r h
 unfold judge_Judge.f at h ⊢
 obtain ⟨v, hv, h⟩ := Option.bind_eq_some_iff.1 h
 rw [judge_evidence_valid.mono _ _ _ _ _ _ hv, Option.bind_some]
 exact h
set_option maxRecDepth 100000 in
theorem jd_sure_any (A0 A2 A3 : Option Addr) (n0 c0 n2 c2 n3 c3 : Nat) (from_ : Int) (w : World) :
  Calls Tryd.prog 52 #[.agg #[.slice A0 n0 c0, .int .i64 from_, .slice A2 n2 c2, .slice A3 n3 c3]] w fun e w' => e = .returned (.func (.func 85) #[] #[.pointer (some ⟨w.heap.size, 0, none⟩)]) ∧
   w' = w.alloc (.cells #[.slice A0 n0 c0, .int .i64 from_, .slice A2 n2 c2, .slice A3 n3 c3] 103) := by
 go_enter Tryd.func52, Tryd.ntmps52
 go_wp2
 go_ret
 exact ⟨rfl, rfl⟩
theorem jd_b3 (W : World) (x y z : Array Value) (t1 t2 t3 : TypeId) (X : World) (h : ((W.alloc (.cells x t1)).alloc (.cells y t2)).alloc (.cells z t3) = X) : X.heap[W.heap.size]? = some (.cells x t1 (0, 0)) ∧ X.heap[W.heap.size + 1]? = some (.cells y t2 (0, 0)) ∧ X.heap[W.heap.size + 1 + 1]? = some (.cells z t3 (0, 0)) ∧ Below W.heap.size W X ∧ X.heap.size = W.heap.size + 1 + 1 + 1 := by
 subst h
 have h1 := World.alloc_heap_new W (.cells x t1)
 have h2 := World.alloc_heap_new (W.alloc (.cells x t1)) (.cells y t2)
 have h3 := World.alloc_heap_new ((W.alloc (.cells x t1)).alloc (.cells y t2)) (.cells z t3)
 simp only [World.size_alloc] at h2 h3
 exact ⟨blk_alloc (blk_alloc h1 _) _, blk_alloc h2 _, h3, below_alloc (below_alloc (below_alloc (Below.refl _ _) _) _) _, by simp only [World.size_alloc]⟩
theorem jd_b2 (W : World) (x y : Array Value) (t1 t2 : TypeId) (X : World) (h : (W.alloc (.cells x t1)).alloc (.cells y t2) = X) : X.heap[W.heap.size]? = some (.cells x t1 (0, 0)) ∧ X.heap[W.heap.size + 1]? = some (.cells y t2 (0, 0)) ∧ Below W.heap.size W X ∧ X.heap.size = W.heap.size + 1 + 1 := by
 subst h
 have h1 := World.alloc_heap_new W (.cells x t1)
 have h2 := World.alloc_heap_new (W.alloc (.cells x t1)) (.cells y t2)
 simp only [World.size_alloc] at h2
 exact ⟨blk_alloc h1 _, h2, below_alloc (below_alloc (Below.refl _ _) _) _, by simp only [World.size_alloc]⟩
theorem jd_stops (n : Nat) (hn : 2 ≤ n) (B : Nat) (R : Nat → Obj → Prop) (w0 W0 : World) (A0 : Option Addr) (c0 : Nat) (line : List S74) (from_ : Int) (A2 : Option Addr) (c2 : Nat) (a : List S54) (A3 : Option Addr) (c3 : Nat) (b : List S54)
  (hR : ∀ k o, R k o → w0.heap.size ≤ k) (hB : W0.heap[B]? = some (.cells #[.slice A0 line.length c0, .int .i64 from_, .slice A2 a.length c2, .slice A3 b.length c3] 103 (0, 0)))
  (hRB : ¬ R B (.cells #[.slice A0 line.length c0, .int .i64 from_, .slice A2 a.length c2, .slice A3 b.length c3] 103 (0, 0))) (hRV : ∀ k cs, ¬ R k (.cells cs 54 (0, 0)))
  (hW : Below w0.heap.size w0 W0) (hG : GG w0) (hC0 : Kd.C k74 w0 A0 line.length line) (hC2 : Kd.C k54 w0 A2 a.length a) (hC3 : Kd.C k54 w0 A3 b.length b) (hok : JdOk line from_ a b) :
  SeqStopsK Fence.wide n Tryd.prog 85 #[.pointer (some ⟨B, 0, none⟩)] jd_enc (fun W W' => JK w0.heap.size R W W') (fun ys => ys = jd_F line (jd_K line from_) from_ a b a.length) (fun pre => pre <+: jd_F line (jd_K line from_) from_ a b a.length) a.length W0 := fun l J Jx W hW' hJ _ hY h0 => by
 have k1 : ∀ i, i < a.length → jd_K line from_ i < line.length := fun i hi => jd_K1 (by have := hok.f1; omega) hok.f0
 exact jd_sure1_in n hn l B R w0 A0 c0 line from_ A2 c2 a A3 c3 b (jd_K line from_) J Jx (fun s W1 W2 hs hb => hJ s W1 W2 none hs (grown_of_below hb none) (by simp)) hY W hR
  ((hW'.block B (Array.getElem?_eq_some_iff.1 hB).1).trans hB) hRB hRV (below_then hW hW.size hW') hG hC0 hC2 hC3 hok.ab (by have := hok.la; omega) (by have := hok.ll; omega) hok.f0 (by have := hok.f1; have := hok.f2; omega)
  k1 (fun i hi j hj => jd_K2 hj) (fun i hi => jd_K3 (k1 i hi)) (jd_K4 line from_) h0
/-- What a round of Judge leaves. -/
def JdI (w W0 : World) (rb : Nat) (v : Value) (r : Int × Int × Int) (W : World) : Prop := W.heap[rb]? = some (.cells #[.bool false, .int .i64 r.1, .int .i64 r.2.1, .int .i64 r.2.2] 37 (0, 0)) ∧ W.heap[w.heap.size]? = some (.cells #[v] 25 (0, 0)) ∧
 W.heap[w.heap.size + 1]? = some (.cells #[.bool false, .int .i64 0, .int .i64 0, .int .i64 0] 37 (0, 0)) ∧ Below w.heap.size w W ∧ W0.heap.size ≤ W.heap.size
def KO (rb : Nat) (W W' : World) : Prop := W.heap.size ≤ W'.heap.size ∧ ∀ k o, W.heap[k]? = some o → k ≠ rb → W'.heap[k]? = some o
theorem KO.trans {rb A B C} (h : KO rb A B) (k : KO rb B C) : KO rb A C := ⟨Nat.le_trans h.1 k.1, fun i o h1 h2 => k.2 i o (h.2 i o h1 h2) h2⟩
theorem KO.of_below {rb A B} (h : Below A.heap.size A B) : KO rb A B := ⟨h.size, fun i o h1 _ => (h.block i (Array.getElem?_eq_some_iff.1 h1).1).trans h1⟩
theorem KO.set (rb o : Nat) (W : World) (v : Value) : KO rb W (W.setCell ⟨rb, o, none⟩ v) := ⟨by simp, fun k o' h hk => (Below.heap_setCell W ⟨rb, o, none⟩ v k hk).trans h⟩
theorem KO.jk {rb base A B} (h : KO rb A B) (hs : ∃ cs, A.heap[rb]? = some (.cells cs 37 (0, 0))) : JK base (fun k o => k = rb ∧ ∃ cs, o = .cells cs 37 (0, 0)) A B := ⟨h.1, fun k o h1 _ h3 => h.2 k o h1 (fun e => h3 ⟨e, by
 obtain ⟨cs, hc⟩ := hs
 rw [← e, h1] at hc
 exact ⟨cs, Option.some.inj hc⟩⟩)⟩
theorem KO.others {rb base A B} (h : KO rb A B) (hs : ∃ cs, A.heap[rb]? = some (.cells cs 37 (0, 0))) : KeepsFrom base A B := ⟨h.1, fun k o _ h1 h2 => h.2 k o h1 (fun e => by
 obtain ⟨cs, hc⟩ := hs
 rw [← e, h1] at hc
 cases hc
 cases h2)⟩
theorem jd_own {X Y : World} {row : Option Nat} {k : Nat} {o : Obj} (hg : X.grownBy Y row) (hk : X.heap[k]? = some o) (hn : ∀ r, row = some r → k ≠ r) : Y.heap[k]? = some o := (hg.block k (Array.getElem?_eq_some_iff.1 hk).1 (fun e => hn k e.symm rfl)).trans hk
set_option maxRecDepth 100000 in
set_option maxHeartbeats 4000000 in
theorem jd_judge_in (n : Nat) (hn : 6 ≤ n) (k : Nat) (A0 : Option Addr) (c0 : Nat) (l0 : List S74) (a1 : Int) (A2 : Option Addr) (c2 : Nat) (l2 : List S54) (A3 : Option Addr) (c3 : Nat) (l3 : List S54) (A4 : Option Addr) (c4 : Nat) (l4 : List Int) (w : World) (hG : GG w)
  (hr0 : Kd.C k74 w A0 l0.length l0) (hc0 : l0.length ≤ c0) (hr2 : Kd.C k54 w A2 l2.length l2) (hc2 : l2.length ≤ c2) (hr3 : Kd.C k54 w A3 l3.length l3) (hc3 : l3.length ≤ c3) (hr4 : Kd.C (Kd.int .i64) w A4 l4.length l4) (hc4 : l4.length ≤ c4) (hv : judge_evidence_valid.f k l0 a1 l2 l3 = some true) :
  CallsIn Fence.wide n Tryd.prog 16 #[.slice A0 l0.length c0, .int .i64 a1, .slice A2 l2.length c2, .slice A3 l3.length c3, .slice A4 l4.length c4] w fun e w' => e = .returned (.tuple #[.agg #[.bool ((jd_res l0 a1 l2 l3 l4).2.2 == 0), .int .i64 (jd_res l0 a1 l2 l3 l4).1, .int .i64 (jd_res l0 a1 l2 l3 l4).2.1, .int .i64 (jd_res l0 a1 l2 l3 l4).2.2], .int .i64 0]) ∧ Below w.heap.size w w' := by
 have h1 : 1 ≤ n := by omega
 have HOK := Aside0.mk (jd_ok hr0.2.1 hv)
 have HG := Aside0.mk hG
 have HR0 := Aside0.mk hr0
 have HR2 := Aside0.mk hr2
 have HR3 := Aside0.mk hr3
 have HR4 := Aside0.mk hr4
 have HC0 := Aside0.mk hc0
 have HC2 := Aside0.mk hc2
 have HC3 := Aside0.mk hc3
 have HC4 := Aside0.mk hc4
 have HV := Aside0.mk hv
 clear hG hr0 hr2 hr3 hr4 hc0 hc2 hc3 hc4 hv
 refine callsIn_of_wp_marks Tryd.func16 rfl trivial ?_ rfl
 simp only [Tryd.ntmps16, List.size_toArray, List.length_cons, List.length_nil, Nat.reduceAdd, Nat.reduceSub, Array.replicate_succ, Array.replicate_zero, List.push_toArray, List.append_toArray, List.nil_append, List.cons_append]
 gi_wp2_with fail
 obtain ⟨Wa, hWa⟩ : ∃ Wa, ((w.alloc (.cells #[.slice A4 l4.length c4] 25)).alloc (.cells #[.bool false, .int .i64 0, .int .i64 0, .int .i64 0] 37)).alloc (.cells #[.slice A0 l0.length c0, .int .i64 a1, .slice A2 l2.length c2, .slice A3 l3.length c3] 103) = Wa := ⟨_, rfl⟩
 obtain ⟨p1, p2, p3, p4, p5⟩ := jd_b3 _ _ _ _ _ _ _ _ hWa
 rw [hWa]
 clear hWa
 refine ⟨trivial, ?_⟩
 refine (callsIn_wide.2 (judge_evidence_valid.calls k _ _ l0 a1 _ _ l2 _ _ l3 true _ (Kd.C_below HR0.out p4) HC0.out (Kd.C_below HR2.out p4) HC2.out (Kd.C_below HR3.out p4) HC3.out HV.out)).mono ?_
 rintro e w1 ⟨rfl, hb1⟩
 have P1 := Aside0.mk (blk_below p1 hb1)
 have P2 := Aside0.mk (blk_below p2 hb1)
 have P3 := blk_below p3 hb1
 have HB1 := Aside0.mk (below_step p4 hb1)
 have HSZ := Aside0.mk (Nat.le_trans (Nat.le_of_eq p5.symm) hb1.size)
 have q0 := (blk_cell P3 0).trans rfl
 have q1 := (blk_cell P3 1).trans rfl
 have q2 := (blk_cell P3 2).trans rfl
 have q3 := (blk_cell P3 3).trans rfl
 have Q0 : ∀ o : Obj, (w1.alloc o).cell? ⟨w.heap.size + 1 + 1, 0, none⟩ = some (.slice A0 l0.length c0) := fun o => pw_cell_below (below_alloc (Below.refl _ _) o) q0
 have Q1 : ∀ o : Obj, (w1.alloc o).cell? ⟨w.heap.size + 1 + 1, 1, none⟩ = some (.int .i64 a1) := fun o => pw_cell_below (below_alloc (Below.refl _ _) o) q1
 have Q2 : ∀ o : Obj, (w1.alloc o).cell? ⟨w.heap.size + 1 + 1, 2, none⟩ = some (.slice A2 l2.length c2) := fun o => pw_cell_below (below_alloc (Below.refl _ _) o) q2
 have Q3 : ∀ o : Obj, (w1.alloc o).cell? ⟨w.heap.size + 1 + 1, 3, none⟩ = some (.slice A3 l3.length c3) := fun o => pw_cell_below (below_alloc (Below.refl _ _) o) q3
 clear p1 p2 p3 p4 p5 hb1 P3 q0 q1 q2 q3
 gi_wp2_with fail
 refine ⟨trivial, ?_⟩
 refine (callsIn_wide.2 (jd_sure_any _ _ _ _ _ _ _ _ _ _ _)).mono ?_
 rintro e w2 ⟨rfl, rfl⟩
 gi_wp2_with fail
 obtain ⟨W0, hW0⟩ : ∃ W0, (w1.alloc (.cells #[.bool false, .int .i64 (-1), .int .i64 0, .int .i64 0] 37)).alloc (.cells #[.slice A0 l0.length c0, .int .i64 a1, .slice A2 l2.length c2, .slice A3 l3.length c3] 103) = W0 := ⟨_, rfl⟩
 obtain ⟨p1, p2, p4, p5⟩ := jd_b2 _ _ _ _ _ _ hW0
 rw [hW0]
 clear hW0 Q0 Q1 Q2 Q3
 have hsz := HSZ.out
 have HW0 := Aside0.mk (below_step HB1.out p4)
 refine wpIn_rangeFunc_ownH rfl h1 (gf := 85) (lb := #[.pointer (some ⟨w1.heap.size + 1, 0, none⟩)]) rfl trivial (enters_of Tryd.func85 (by kernel_rfl) rfl)
  (jd_stops (n - 1) (by omega) (w1.heap.size + 1) (fun k o => k = w1.heap.size ∧ ∃ cs, o = .cells cs 37 (0, 0)) w W0 A0 c0 l0 a1 A2 c2 l2 A3 c3 l3 (fun k o h => by rw [h.1]; omega) p2 (fun h => absurd h.1 (by omega)) (fun k cs h => by obtain ⟨_, cs', h⟩ := h; cases h) HW0.out HG.out HR0.out HR2.out HR3.out HOK.out)
  (fun h k => h.trans k) ?hKb (Below.refl _ _) (fun _ => rfl)
  (fun pre W => JdI w W0 w1.heap.size (.slice A4 l4.length c4) (jd_run l4 pre) W)
  (fun _ _ _ => False)
  ?hI
  (fun _ _ _ _ _ hs _ _ => hs)
  ⟨p1, blk_below P1.out p4, blk_below P2.out p4, HW0.out, Nat.le_refl _⟩
  (fun x a' W => ∃ Bx, W0.heap.size ≤ Bx ∧ W.heap[Bx]? = some (.cells #[.int .i64 x.1, .int .i64 x.2.1, .int .i64 x.2.2.f0, .int .i64 x.2.2.f1] 108 (0, 0)) ∧ a' = { tmps := #[.slice A0 l0.length c0, .int .i64 a1, .slice A2 l2.length c2, .slice A3 l3.length c3, .slice A4 l4.length c4, undef, undef, undef, undef, .pointer (some ⟨w.heap.size, 0, none⟩), .pointer (some ⟨w.heap.size + 1, 0, none⟩), .int .i64 0, .pointer (some ⟨w.heap.size + 1 + 1, 0, none⟩), .pointer (some ⟨w1.heap.size, 0, none⟩), .pointer (some ⟨Bx, 0, none⟩), .slice A0 l0.length c0, .int .i64 a1, .slice A2 l2.length c2, .slice A3 l3.length c3, .agg #[.slice A0 l0.length c0, .int .i64 a1, .slice A2 l2.length c2, .slice A3 l3.length c3], .agg #[.slice A0 l0.length c0, .int .i64 a1, .slice A2 l2.length c2, .slice A3 l3.length c3], .bool true, .bool false, undef, .agg #[.bool false, .int .i64 (-1), .int .i64 0, .int .i64 0], .agg #[.slice A0 l0.length c0, .int .i64 a1, .slice A2 l2.length c2, .slice A3 l3.length c3], .func (.func 85) #[] #[.pointer (some ⟨w1.heap.size + 1, 0, none⟩)], .agg #[.int .i64 x.1, .int .i64 x.2.1, .int .i64 x.2.2.f0, .int .i64 x.2.2.f1], undef, undef, undef, undef, undef, undef, undef, undef, undef, undef, undef, undef, undef, undef, undef, undef, undef, undef, undef, undef, undef, undef, undef, undef, undef, undef], defers := [] })
  ?hAx
  ?assign ?body ?done ?stop
 case hKb =>
  intro W l o o' hl ho hc _
  exact ⟨by simp, fun k o2 hk hb hn => by
   by_cases hkl : k = l
   ·subst hkl
    rw [ho] at hk
    cases hk
    rcases hb with hb | hb
    ·have := HW0.out.size; omega
    ·rw [hc] at hb; cases hb
   ·exact jd_own (grownBy_putObj' W l o') hk (fun r e => by cases e; exact hkl)⟩
 case hI =>
  rintro s X Y row ⟨i1, i2, i3, i4, i5⟩ hg hr
  have hlt : ∀ r, row = some r → W0.heap.size ≤ r := fun r e => (hr r e).1
  exact ⟨jd_own hg i1 (fun r e => by have := hlt r e; omega), jd_own hg i2 (fun r e => by have := hlt r e; omega), jd_own hg i3 (fun r e => by have := hlt r e; omega), i4.grown hg i4.size (fun r e => by have := hlt r e; have := HW0.out.size; omega), Nat.le_trans i5 hg.size⟩
 case hAx =>
  rintro x a' _ X Y row ⟨Bx, h1, h2, h3⟩ hg hr
  refine ⟨Bx, h1, jd_own hg h2 (fun r e hk => ?_), h3⟩
  obtain ⟨o, ho, hc⟩ := (hr r e).2
  rw [← hk, h2] at ho
  cases ho
  cases hc
 case assign =>
  rintro l pre x W K ⟨i1, i2, i3, i4, i5⟩ hK
  have I1 := Aside0.mk i1
  have I2 := Aside0.mk i2
  have I3 := Aside0.mk i3
  have I4 := Aside0.mk i4
  clear i1 i2 i3 i4
  simp only [jd_enc]
  gi_wp2
  have hb := below_alloc (Below.refl W.heap.size W) (.cells #[.int .i64 x.1, .int .i64 x.2.1, .int .i64 x.2.2.f0, .int .i64 x.2.2.f1] 108)
  exact hK _ _ ((KeepsOthers.alloc _ _).from _) (JK.of_below hb) ⟨blk_below I1.out hb, blk_below I2.out hb, blk_below I3.out hb, below_step I4.out hb, by simp; omega⟩ ⟨W.heap.size, i5, World.alloc_heap_new _ _, rfl⟩
 case body =>
  rintro l pre x a' W hl ⟨rc, hrc⟩ ⟨i1, i2, i3, i4, i5⟩ ⟨Bx, hBx, bX, rfl⟩ hlt
  have hrb : w1.heap.size < W0.heap.size := by omega
  obtain ⟨⟨p, t, g0⟩, hr⟩ : ∃ r, jd_run l4 pre = r := ⟨_, rfl⟩
  rw [hr] at i1
  simp only [] at i1
  have z0 : W.cell? ⟨w1.heap.size, 0, none⟩ = some (.bool false) := (blk_cell i1 0).trans rfl
  have z1 : W.cell? ⟨w1.heap.size, 1, none⟩ = some (.int .i64 p) := (blk_cell i1 1).trans rfl
  have z2 : W.cell? ⟨w1.heap.size, 2, none⟩ = some (.int .i64 t) := (blk_cell i1 2).trans rfl
  have z3 : W.cell? ⟨w1.heap.size, 3, none⟩ = some (.int .i64 g0) := (blk_cell i1 3).trans rfl
  have y2 := blk_frozen i1 2
  have x0 : ∀ v, (W.setCell ⟨w1.heap.size, 2, none⟩ v).cell? ⟨Bx, 0, none⟩ = some (.int .i64 x.1) := fun v => (cell_far (by simp; omega) v).trans ((blk_cell bX 0).trans rfl)
  have x1 : ∀ v, (W.setCell ⟨w1.heap.size, 2, none⟩ v).cell? ⟨Bx, 1, none⟩ = some (.int .i64 x.2.1) := fun v => (cell_far (by simp; omega) v).trans ((blk_cell bX 1).trans rfl)
  have x2 : ∀ v, (W.setCell ⟨w1.heap.size, 2, none⟩ v).cell? ⟨Bx, 2, none⟩ = some (.int .i64 x.2.2.f0) := fun v => (cell_far (by simp; omega) v).trans ((blk_cell bX 2).trans rfl)
  have x3 : ∀ v, (W.setCell ⟨w1.heap.size, 2, none⟩ v).cell? ⟨Bx, 3, none⟩ = some (.int .i64 x.2.2.f1) := fun v => (cell_far (by simp; omega) v).trans ((blk_cell bX 3).trans rfl)
  have kx : ∀ v, (W.setCell ⟨w1.heap.size, 2, none⟩ v).cell? ⟨w.heap.size, 0, none⟩ = some (.slice A4 l4.length c4) := fun v => (cell_far (by simp; omega) v).trans ((blk_cell i2 0).trans rfl)
  have I1 := Aside0.mk i1
  have I2 := Aside0.mk i2
  have I3 := Aside0.mk i3
  have I4 := Aside0.mk i4
  have HRN := Aside0.mk hr
  have BX := Aside0.mk bX
  clear i1 i2 i3 i4 hr hrc bX hlt
  obtain ⟨g, hg⟩ : ∃ g, jd_A x.2.1 x.2.2.f0 x.2.2.f1 l4 = g := ⟨_, rfl⟩
  have HG0 := Aside0.mk hg
  have HAF := Aside0.mk (jd_A_f x.2.1 x.2.2.f0 x.2.2.f1 l4 HR4.out.2.1)
  clear hg
  gi_wp2_with fail
  refine ⟨trivial, fun _ => by omega, ?_⟩
  obtain ⟨Wb, hWb⟩ : ∃ Wb, W.setCell ⟨w1.heap.size, 2, none⟩ (.int .i64 (wrap64 (t + 1))) = Wb := ⟨_, rfl⟩
  have b1 : Wb.heap[w1.heap.size]? = some (.cells #[.bool false, .int .i64 p, .int .i64 (wrap64 (t + 1)), .int .i64 g0] 37 (0, 0)) := by rw [← hWb]; exact blk_set I1.out 2 _
  have bk : Below w.heap.size w Wb := by rw [← hWb]; exact I4.out.setCell (p := ⟨w1.heap.size, 2, none⟩) (by simp; omega) _
  have ko : KO w1.heap.size W Wb := by rw [← hWb]; exact KO.set _ _ _ _
  rw [hWb]
  clear hWb z0 z1 z2 z3 y2 x0 x1 x2 x3 kx
  refine (CallsIn.inRound l (callsIn_wide.2 (judge_Against.calls (l4.length + 3) x.2.1 x.2.2.f0 x.2.2.f1 A4 c4 l4 g Wb (gg_at HG bk) (Kd.C_below HR4.out bk) HC4.out (by rw [← HG0.out]; exact HAF.out)))).mono ?_
  rintro e w3 ⟨rfl, hb3⟩
  have c1 := blk_below b1 hb3
  have ko3 := ko.trans (KO.of_below hb3)
  have C1 := Aside0.mk c1
  have KO3 := Aside0.mk ko3
  have BK3 := Aside0.mk (below_step bk hb3)
  have z1 : w3.cell? ⟨w1.heap.size, 1, none⟩ = some (.int .i64 p) := (blk_cell c1 1).trans rfl
  have z3 : w3.cell? ⟨w1.heap.size, 3, none⟩ = some (.int .i64 g0) := (blk_cell c1 3).trans rfl
  have y1 := blk_frozen c1 1
  have y3 := blk_frozen c1 3
  have x0 : w3.cell? ⟨Bx, 0, none⟩ = some (.int .i64 x.1) := (blk_cell (ko3.2 Bx _ BX.out (by omega)) 0).trans rfl
  have fin : ∀ W5 r', KO w1.heap.size w3 W5 → Below w.heap.size w W5 → jd_add (p, t, g0) x.1 g = r' → W5.heap[w1.heap.size]? = some (.cells #[.bool false, .int .i64 r'.1, .int .i64 r'.2.1, .int .i64 r'.2.2] 37 (0, 0)) →
    KeepsFrom W0.heap.size W W5 ∧ JK w.heap.size (fun k o => k = w1.heap.size ∧ ∃ cs, o = .cells cs 37 (0, 0)) W W5 ∧ JdI w W0 w1.heap.size (.slice A4 l4.length c4) (jd_run l4 (pre ++ [x])) W5 := fun W5 r' k5 b5 hr' h5 => by
   have k6 := KO3.out.trans k5
   refine ⟨k6.others ⟨_, I1.out⟩, k6.jk ⟨_, I1.out⟩, ?_, k6.2 _ _ I2.out (by omega), k6.2 _ _ I3.out (by omega), b5, Nat.le_trans i5 k6.1⟩
   rw [jd_run_snoc, HRN.out, HG0.out, hr']
   exact h5
  have FIN := Aside0.mk fin
  clear b1 bk ko hb3 c1 ko3 fin
  cases g
  ·gi_wp2
   exact FIN.out w3 (p, wrap64 (t + 1), g0) ⟨Nat.le_refl _, fun _ _ h _ => h⟩ BK3.out rfl C1.out
  ·by_cases h0 : g0 = 0
   ·subst h0
    gi_wp2
    exact FIN.out _ (x.1, wrap64 (t + 1), 1) ((KO.set _ _ _ _).trans (KO.set _ _ _ _)) ((BK3.out.setCell (p := ⟨w1.heap.size, 1, none⟩) (by simp; omega) _).setCell (p := ⟨w1.heap.size, 3, none⟩) (by simp; omega) _) (by have e : wrap64 1 = 1 := jd_w (by omega) (by omega); simp [jd_add, e]) (blk_set (blk_set C1.out 1 _) 3 _)
   ·have hgb : (g0 == 0) = false := by simpa using h0
    gi_wp2
    exact FIN.out _ (p, wrap64 (t + 1), wrap64 (g0 + 1)) (KO.set _ _ _ _) (BK3.out.setCell (p := ⟨w1.heap.size, 3, none⟩) (by simp; omega) _) (by simp [jd_add, h0]) (blk_set C1.out 3 _)
 case done =>
  rintro D ys W hD rfl ⟨i1, i2, i3, i4, i5⟩ hK
  have hrb : w1.heap.size < W0.heap.size := by omega
  obtain ⟨⟨p, t, g0⟩, hr⟩ : ∃ r, jd_res l0 a1 l2 l3 l4 = r := ⟨_, rfl⟩
  rw [show jd_run l4 (jd_F l0 (jd_K l0 a1) a1 l2 l3 l2.length) = (p, t, g0) from hr] at i1
  simp only [] at i1
  have z0 : W.cell? ⟨w1.heap.size, 0, none⟩ = some (.bool false) := (blk_cell i1 0).trans rfl
  have z1 : W.cell? ⟨w1.heap.size, 1, none⟩ = some (.int .i64 p) := (blk_cell i1 1).trans rfl
  have z2 : W.cell? ⟨w1.heap.size, 2, none⟩ = some (.int .i64 t) := (blk_cell i1 2).trans rfl
  have z3 : W.cell? ⟨w1.heap.size, 3, none⟩ = some (.int .i64 g0) := (blk_cell i1 3).trans rfl
  have y0 := blk_frozen i1 0
  have hne : w.heap.size + 1 ≠ w1.heap.size := by omega
  have u0 : ∀ v, (W.setCell ⟨w1.heap.size, 0, none⟩ v).cell? ⟨w.heap.size + 1, 0, none⟩ = some (.bool false) := fun v => (blk_cell (blk_far i3 hne v) 0).trans rfl
  have u1 : ∀ v, (W.setCell ⟨w1.heap.size, 0, none⟩ v).cell? ⟨w.heap.size + 1, 1, none⟩ = some (.int .i64 0) := fun v => (blk_cell (blk_far i3 hne v) 1).trans rfl
  have u2 : ∀ v, (W.setCell ⟨w1.heap.size, 0, none⟩ v).cell? ⟨w.heap.size + 1, 2, none⟩ = some (.int .i64 0) := fun v => (blk_cell (blk_far i3 hne v) 2).trans rfl
  have u3 : ∀ v, (W.setCell ⟨w1.heap.size, 0, none⟩ v).cell? ⟨w.heap.size + 1, 3, none⟩ = some (.int .i64 0) := fun v => (blk_cell (blk_far i3 hne v) 3).trans rfl
  have f0 : ∀ v, (W.setCell ⟨w1.heap.size, 0, none⟩ v).frozen? ⟨w.heap.size + 1, 0, none⟩ = false := fun v => blk_frozen (blk_far i3 hne v) 0
  have f1 : ∀ v, (W.setCell ⟨w1.heap.size, 0, none⟩ v).frozen? ⟨w.heap.size + 1, 1, none⟩ = false := fun v => blk_frozen (blk_far i3 hne v) 1
  have f2 : ∀ v, (W.setCell ⟨w1.heap.size, 0, none⟩ v).frozen? ⟨w.heap.size + 1, 2, none⟩ = false := fun v => blk_frozen (blk_far i3 hne v) 2
  have f3 : ∀ v, (W.setCell ⟨w1.heap.size, 0, none⟩ v).frozen? ⟨w.heap.size + 1, 3, none⟩ = false := fun v => blk_frozen (blk_far i3 hne v) 3
  have I1 := Aside0.mk i1
  have I3 := Aside0.mk i3
  have I4 := Aside0.mk i4
  have HRS := Aside0.mk hr
  have HKD := Aside0.mk hK
  clear i1 i2 i3 i4 hr hK
  gi_wp2
  obtain ⟨Wf, hWf⟩ : ∃ Wf, ((((W.setCell ⟨w1.heap.size, 0, none⟩ (.bool (g0 == 0))).setCell ⟨w.heap.size + 1, 0, none⟩ (.bool (g0 == 0))).setCell ⟨w.heap.size + 1, 1, none⟩ (.int .i64 p)).setCell ⟨w.heap.size + 1, 2, none⟩ (.int .i64 t)).setCell ⟨w.heap.size + 1, 3, none⟩ (.int .i64 g0) = Wf := ⟨_, rfl⟩
  have cf : Wf.heap[w.heap.size + 1]? = some (.cells #[.bool (g0 == 0), .int .i64 p, .int .i64 t, .int .i64 g0] 37 (0, 0)) := by
   rw [← hWf]
   exact blk_set (blk_set (blk_set (blk_set (blk_far I3.out hne _) 0 _) 1 _) 2 _) 3 _
  have hD' : Wf.heap[D]? = some (.deferred (some [])) := by
   have n1 : D ≠ w1.heap.size := by omega
   have n2 : D ≠ w.heap.size + 1 := by omega
   rw [← hWf, Below.heap_setCell _ _ _ D (by simpa using n2), Below.heap_setCell _ _ _ D (by simpa using n2), Below.heap_setCell _ _ _ D (by simpa using n2), Below.heap_setCell _ _ _ D (by simpa using n2), Below.heap_setCell _ _ _ D (by simpa using n1)]
   exact HKD.out
  have bf : Below w.heap.size w Wf := by
   rw [← hWf]
   exact ((((I4.out.setCell (p := ⟨w1.heap.size, 0, none⟩) (by simp; omega) _).setCell (p := ⟨w.heap.size + 1, 0, none⟩) (by simp) _).setCell (p := ⟨w.heap.size + 1, 1, none⟩) (by simp) _).setCell (p := ⟨w.heap.size + 1, 2, none⟩) (by simp) _).setCell (p := ⟨w.heap.size + 1, 3, none⟩) (by simp) _
  rw [hWf]
  refine ⟨by simp, .inl ⟨_, _, rfl, run_takeDeferred hD', ?_⟩⟩
  have cg := jd_own (grownBy_putObj' Wf D (.deferred none)) cf (fun r e => by cases e; omega)
  have k0 := (blk_cell cg 0).trans rfl
  have k1 := (blk_cell cg 1).trans rfl
  have k2 := (blk_cell cg 2).trans rfl
  have k3 := (blk_cell cg 3).trans rfl
  refine ⟨.tuple #[.agg #[.bool (g0 == 0), .int .i64 p, .int .i64 t, .int .i64 g0], .int .i64 0], by simp [results, Tryd.f16, go_sem, k0, k1, k2, k3], by rw [HRS.out], ?_⟩
  exact bf.grown (grownBy_putObj' _ D (.deferred none)) bf.size (fun r e => by cases e; have := HW0.out.size; omega)
 case stop =>
  intro D c pre W _ _ h _
  exact h.elim
set_option maxRecDepth 100000 in
set_option maxHeartbeats 2000000 in
theorem jd_judge_no (k : Nat) (A0 : Option Addr) (c0 : Nat) (l0 : List S74) (a1 : Int) (A2 : Option Addr) (c2 : Nat) (l2 : List S54) (A3 : Option Addr) (c3 : Nat) (l3 : List S54) (A4 : Option Addr) (c4 : Nat) (l4 : List Int) (w : World)
  (hr0 : Kd.C k74 w A0 l0.length l0) (hc0 : l0.length ≤ c0) (hr2 : Kd.C k54 w A2 l2.length l2) (hc2 : l2.length ≤ c2) (hr3 : Kd.C k54 w A3 l3.length l3) (hc3 : l3.length ≤ c3) (hv : judge_evidence_valid.f k l0 a1 l2 l3 = some false) :
  Calls Tryd.prog 16 #[.slice A0 l0.length c0, .int .i64 a1, .slice A2 l2.length c2, .slice A3 l3.length c3, .slice A4 l4.length c4] w fun e w' => e = .returned (.tuple #[.agg #[.bool false, .int .i64 0, .int .i64 0, .int .i64 0], .int .i64 380]) ∧ Below w.heap.size w w' := by
 have HR0 := Aside0.mk hr0
 have HR2 := Aside0.mk hr2
 have HR3 := Aside0.mk hr3
 have HC0 := Aside0.mk hc0
 have HC2 := Aside0.mk hc2
 have HC3 := Aside0.mk hc3
 have HV := Aside0.mk hv
 clear hr0 hr2 hr3 hc0 hc2 hc3 hv
 go_enter Tryd.func16, Tryd.ntmps16
 go_wp2_with fail
 obtain ⟨Wa, hWa⟩ : ∃ Wa, ((w.alloc (.cells #[.slice A4 l4.length c4] 25)).alloc (.cells #[.bool false, .int .i64 0, .int .i64 0, .int .i64 0] 37)).alloc (.cells #[.slice A0 l0.length c0, .int .i64 a1, .slice A2 l2.length c2, .slice A3 l3.length c3] 103) = Wa := ⟨_, rfl⟩
 obtain ⟨p1, p2, p3, p4, p5⟩ := jd_b3 _ _ _ _ _ _ _ _ hWa
 rw [hWa]
 clear hWa
 refine (judge_evidence_valid.calls k _ _ l0 a1 _ _ l2 _ _ l3 false _ (Kd.C_below HR0.out p4) HC0.out (Kd.C_below HR2.out p4) HC2.out (Kd.C_below HR3.out p4) HC3.out HV.out).mono ?_
 rintro e w1 ⟨rfl, hb1⟩
 have c1 := blk_below p2 hb1
 have HB1 := Aside0.mk (below_step p4 hb1)
 have z0 : w1.cell? ⟨w.heap.size + 1, 0, none⟩ = some (.bool false) := (blk_cell c1 0).trans rfl
 have z1 : w1.cell? ⟨w.heap.size + 1, 1, none⟩ = some (.int .i64 0) := (blk_cell c1 1).trans rfl
 have z2 : w1.cell? ⟨w.heap.size + 1, 2, none⟩ = some (.int .i64 0) := (blk_cell c1 2).trans rfl
 have z3 : w1.cell? ⟨w.heap.size + 1, 3, none⟩ = some (.int .i64 0) := (blk_cell c1 3).trans rfl
 have y0 := blk_frozen c1 0
 have y1 := blk_frozen c1 1
 have y2 := blk_frozen c1 2
 have y3 := blk_frozen c1 3
 have C1 := Aside0.mk c1
 clear p1 p2 p3 p4 p5 hb1 c1
 go_wp2
 have cf := blk_set (blk_set (blk_set (blk_set C1.out 0 (.bool false)) 1 (.int .i64 0)) 2 (.int .i64 0)) 3 (.int .i64 0)
 have k0 := (blk_cell cf 0).trans rfl
 have k1 := (blk_cell cf 1).trans rfl
 have k2 := (blk_cell cf 2).trans rfl
 have k3 := (blk_cell cf 3).trans rfl
 exact bodyPost_ret (v := .tuple #[.agg #[.bool false, .int .i64 0, .int .i64 0, .int .i64 0], .int .i64 380]) (by simp [results, Tryd.f16, go_sem, k0, k1, k2, k3]) rfl ⟨rfl, (((HB1.out.setCell (p := ⟨w.heap.size + 1, 0, none⟩) (by simp) _).setCell (p := ⟨w.heap.size + 1, 1, none⟩) (by simp) _).setCell (p := ⟨w.heap.size + 1, 2, none⟩) (by simp) _).setCell (p := ⟨w.heap.size + 1, 3, none⟩) (by simp) _⟩
theorem judge_Judge.calls (k : Nat) (A0 : Option Addr) (c0 : Nat) (l0 : List S74) (a1 : Int) (A2 : Option Addr) (c2 : Nat) (l2 : List S54) (A3 : Option Addr) (c3 : Nat) (l3 : List S54) (A4 : Option Addr) (c4 : Nat) (l4 : List Int) (r1 : Bool) (r2 r3 r4 r5 : Int) (w : World) (hG : Aside0 (GG w))
  (hr0 : Kd.C k74 w A0 l0.length l0) (hc0 : l0.length ≤ c0) (hr2 : Kd.C k54 w A2 l2.length l2) (hc2 : l2.length ≤ c2) (hr3 : Kd.C k54 w A3 l3.length l3) (hc3 : l3.length ≤ c3) (hr4 : Kd.C (Kd.int .i64) w A4 l4.length l4) (hc4 : l4.length ≤ c4) (h : judge_Judge.f k l0 a1 l2 l3 l4 = some (r1, r2, r3, r4, r5)) :
  Calls Tryd.prog 16 #[.slice A0 l0.length c0, .int .i64 a1, .slice A2 l2.length c2, .slice A3 l3.length c3, .slice A4 l4.length c4] w fun e w' => e = .returned (.tuple #[.agg #[.bool r1, .int .i64 r2, .int .i64 r3, .int .i64 r4], .int .i64 r5]) ∧ Below w.heap.size w w' := by
 unfold judge_Judge.f at h
 obtain ⟨v, hv, h⟩ := Option.bind_eq_some_iff.1 h
 cases v with
 | true =>
  rw [if_pos rfl] at h
  have h := Option.some.inj h
  simp only [Prod.mk.injEq] at h
  obtain ⟨rfl, rfl, rfl, rfl, rfl⟩ := h
  exact callsIn_wide.1 (jd_judge_in 6 (Nat.le_refl _) k A0 c0 l0 a1 A2 c2 l2 A3 c3 l3 A4 c4 l4 w hG.out hr0 hc0 hr2 hc2 hr3 hc3 hr4 hc4 hv)
 | false =>
  rw [if_neg (by decide)] at h
  have h := Option.some.inj h
  simp only [Prod.mk.injEq] at h
  obtain ⟨rfl, rfl, rfl, rfl, rfl⟩ := h
  exact jd_judge_no k A0 c0 l0 a1 A2 c2 l2 A3 c3 l3 A4 c4 l4 w hr0 hc0 hr2 hc2 hr3 hc3 hv

end Go.Proofs.YtglcdgalimgkeaaDoor.PJB
