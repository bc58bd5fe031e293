-- PRINTED by print.py (a twelfth state) out of the translation. Not trusted: Lean checks it.
import Derived.Test.YtbhngbjopfjacaaPM15x0
import Derived.Test.YtbhngbjopfjacaaPM15x12
import Derived.Test.YtbhngbjopfjacaaPM15x13
import Derived.RangeFuncNested
import Derived.RangeFuncBound
import Derived.RangeFuncCalls
import Derived.RangeFuncLeaves
import Derived.RangeFuncBox
import Derived.Shelf.Abstract
import Derived.Shelf.RegionOpen
import Derived.OwnWalkIn
import Derived.TacticsInMore
import Derived.LoopNIn
import Derived.LoopIn
import Derived.OneCell
import Derived.BigQuiet
import Derived.Deep.RegionWith
import Derived.Deep.RegionHeld3
import Derived.Deep.RegionLaw
import Derived.IntWalk
import Derived.Lib.SliceRun
import Derived.Deep.RegionLawGrows
namespace Go.Proofs.Ytbhngbjopfjacaa.PM15
open Go.RowKit Go.Proofs.YtbhngbjopfjacaaW.PrintWords Go.Proofs.YtbhngbjopfjacaaW.PrintLast Go.Proofs.YtbhngbjopfjacaaW.PrintMore
attribute [local go_sem] max2_int min2_int max_two min_two max_three min_three max_four min_four   -- for this text's walks alone
set_option linter.unusedVariables false
set_option linter.unusedSimpArgs false

attribute [local go_sem] Oper.semAt_some
open Go.Shelf
-- given by hand: bt2
def aircheckref15_Bent.f (l0 : List S25) (a1 a2 a3 : Int) : Option (List S25) :=
  if l0.length ≤ 100000 then
    if l0.length = 0 then some [⟨0, a2, 0⟩] else
    (aircheckref15_pick.f a3 (l0.length : Int)).bind fun k => (aircheckref15_pick.f a1 5).bind fun q =>
    (aircheckref15_end.f l0).bind fun e => (aircheckref15_pick.f a3 9).bind fun o =>
    if 0 ≤ k ∧ k < (l0.length : Int) then
      if q = 0 then some (l0.set k.toNat ⟨a2, (rd_T25 l0 k).f1, (rd_T25 l0 k).f2⟩)
      else if q = 1 then some (l0.set k.toNat ⟨(rd_T25 l0 k).f0, a2, (rd_T25 l0 k).f2⟩)
      else if q = 2 then some (l0.set k.toNat ⟨(rd_T25 l0 k).f0, (rd_T25 l0 k).f1, a2⟩)
      else if q = 3 then some (l0.take k.toNat ++ l0.drop (k.toNat + 1))
      else some (l0 ++ [⟨e, a2, o⟩])
    else none
  else none
def bt_cells (xs : List S25) : List Value := xs.flatMap fun x => [.int .i64 x.f0, .int .i64 x.f1, .int .i64 x.f2]
theorem bt_cons (x : S25) (xs : List S25) : bt_cells (x :: xs) = .int .i64 x.f0 :: .int .i64 x.f1 :: .int .i64 x.f2 :: bt_cells xs := rfl
theorem bt_app (xs ys : List S25) : bt_cells (xs ++ ys) = bt_cells xs ++ bt_cells ys := by simp [bt_cells]
theorem bt_len (xs : List S25) : (bt_cells xs).length = xs.length * 3 := by
  induction xs with
  | nil => rfl
  | cons x xs ih => rw [bt_cons]; simp only [List.length_cons, ih]; omega
theorem bt_reps (W : World) (B : Nat) (ok : Nat → Prop) (xs : List S25) : Reps (Kd.M k25 W B ok) 3 xs (bt_cells xs) := by
  induction xs with
  | nil => exact Reps.none _ _
  | cons x xs ih => exact Reps.c3 (k25_mkM _ _ _ x) ih
theorem bt_one (xs : List S25) : ∀ u ∈ bt_cells xs, u.oneCell' = true := by
  induction xs with
  | nil => intro u hu; cases hu
  | cons x xs ih =>
    intro u hu
    rw [bt_cons] at hu
    simp only [List.mem_cons] at hu
    rcases hu with rfl | rfl | rfl | hu
    · rfl
    · rfl
    · rfl
    · exact ih u hu
theorem bt_get (xs : List S25) : ∀ (j : Nat) (u : Value), (bt_cells xs)[j]? = some u → ∃ i r p, j = i * 3 + r ∧ xs[i]? = some p ∧ ([.int .i64 p.f0, .int .i64 p.f1, .int .i64 p.f2] : List Value)[r]? = some u := by
  induction xs with
  | nil => intro j u h; simp [bt_cells] at h
  | cons x xs ih =>
    intro j u h
    rw [bt_cons] at h
    match j, h with
    | 0, h => exact ⟨0, 0, x, rfl, rfl, h⟩
    | 1, h => exact ⟨0, 1, x, rfl, rfl, h⟩
    | 2, h => exact ⟨0, 2, x, rfl, rfl, h⟩
    | j + 3, h =>
      obtain ⟨i, r, p, e, h1, h2⟩ := ih j u h
      exact ⟨i + 1, r, p, by omega, h1, h2⟩
theorem bt_c_cells {W : World} {ad : Addr} {n : Nat} {ys : List S25} (h : Kd.C k25 W (some ad) n ys) : ∀ j u, (bt_cells ys)[j]? = some u → W.cell? (ad.add j) = some u := fun j u hj => by
  obtain ⟨i, r, p, rfl, hp, hu⟩ := bt_get ys j u hj
  have hl := (List.getElem?_eq_some_iff.1 hp).1
  obtain ⟨ad', e, hc⟩ := h.2.2 (by have := h.1; omega)
  cases e
  obtain ⟨c, hs, hr, hcell⟩ := hc i p hp
  rw [k25_open hr] at hcell
  exact hcell r u hu
theorem bt_take_cells {W : World} {ad : Addr} {n a : Nat} {ys : List S25} (h : Kd.C k25 W (some ad) n ys) : ∀ j u, (bt_cells (ys.take a))[j]? = some u → W.cell? (ad.add j) = some u := fun j u hj => bt_c_cells h j u (by
  have e := bt_app (ys.take a) (ys.drop a)
  rw [List.take_append_drop] at e
  rw [e, List.getElem?_append_left (List.getElem?_eq_some_iff.1 hj).1]
  exact hj)
def BtS (w : World) (A : Option Addr) (xs : List S25) (W : World) : Prop := Kd.C k25 W A xs.length xs ∧ Below w.heap.size w W
theorem BtS.alloc {w W : World} {A : Option Addr} {xs : List S25} (h : BtS w A xs W) (o : Obj) : BtS w A xs (W.alloc o) := ⟨Kd.C_alloc h.1 _, below_alloc h.2 _⟩
theorem BtS.drew {w W : World} {A : Option Addr} {xs : List S25} (h : BtS w A xs W) : BtS w A xs W.drew := ⟨Kd.C_drew h.1, below_drew h.2⟩
theorem bt_cut (A : Option Addr) (n c a : Nat) (ha : a ≤ n) (hc : n ≤ c) :
    (∀ W, (Instr.slice 23 (.slice A n c) none (some (.int .i64 (a : Int))) (some (.int .i64 (a : Int)))).run Try.prog W = .ok (.slice A a a) W) ∧
    (∀ W, (Instr.slice 23 (.slice A n c) (some (.int .i64 (a : Int))) none none).run Try.prog W = .ok (.slice (if c = a then A else A.map (·.add (a * 3))) (n - a) (c - a)) W) := by
  obtain ⟨i0, hi0, _, hs, _⟩ := info_parts info25
  have ht := Try.underlying23
  have hel : Try.prog.elem 23 = 25 := by simp [Program.elem, ht]
  have hu : Try.prog.underlying 23 = some (.slice (Try.prog.elem 23)) := by rw [hel]; exact ht
  refine ⟨fun W => ?_, fun W => ?_⟩
  · rw [run_slice_hm W 23 _ n c hu .i64 .i64 _ _ (by omega) (by omega) (by omega), hel]
    have h0 : (A.map fun x => x.add 0) = A := by cases A <;> simp [Addr.add]
    simp [sizeOf, typeInfo, hi0, hs, sliced, Result.andThen, h0]
  · have := cut_from (P := Try.prog) 23 25 .i64 ht hi0 3 hs A n c (a : Int) (by omega) (by omega) W
    rw [Int.toNat_natCast] at this
    exact this
theorem BtS.drop {w W : World} {A A2 : Option Addr} {cap a : Nat} {xs : List S25} (h : BtS w A xs W) (hc : xs.length ≤ cap) (ha : a ≤ xs.length) (e : (if cap = a then A else A.map (·.add (a * 3))) = A2) : Kd.C k25 W A2 (xs.length - a) (xs.drop a) := by
  have := Kd.C_drop (c := cap) h.1 ha hc
  rw [show (k25).sz = 3 from rfl, e, List.length_drop] at this
  exact this
theorem BtS.C {w W : World} {A : Option Addr} {xs : List S25} (h : BtS w A xs W) : Kd.C k25 W A xs.length xs := h.1
theorem BtS.grown0 {w X W' : World} {A : Option Addr} {xs : List S25} (h : BtS w A xs X) (hg : X.grownBy W' none) : BtS w A xs W' := ⟨Kd.C_below h.1 ((Below.refl X.heap.size X).grown hg (Nat.le_refl _) (fun k e => by cases e)), h.2.grown hg h.2.size (fun k e => by cases e)⟩
theorem BtS.bel {w W : World} {A : Option Addr} {xs : List S25} (h : BtS w A xs W) : Below w.heap.size w W := h.2
theorem bt_own {W : World} {B : Nat} {v : Value} {n : Nat} {xs : List S25} (hn : n = xs.length) (h : W.ownsRow B 25 3 v n (bt_cells xs)) : Kd.R k25 25 W B (fun _ => True) v xs := by
  subst hn
  exact ⟨fun _ _ => trivial, _, h, bt_reps _ _ _ _⟩
theorem bt_take_C {W : World} {A : Option Addr} {a : Nat} {xs ys : List S25} (h : Kd.C k25 W A xs.length xs) (ha : a ≤ xs.length) (e : xs.take a = ys) : Kd.C k25 W A ys.length ys := by
  subst e
  exact Kd.C_take h ha
theorem bt_ret {w W : World} {v : Value} {xs : List S25} (h : Kd.R k25 25 W w.heap.size (fun _ => True) v xs) (hb : Below w.heap.size w W) : ∃ A c, (Ending.returned v) = .returned (.slice A xs.length c) ∧ xs.length ≤ c ∧ Kd.C k25 W A xs.length xs ∧ Below w.heap.size w W := by
  obtain ⟨A, c, rfl, h1, h2⟩ := Kd.R_reads h
  exact ⟨A, c, rfl, h1, h2, hb⟩
set_option maxRecDepth 100000 in
set_option maxHeartbeats 4000000 in
theorem aircheckref15_Bent.calls (A0 : Option Addr) (c0 : Nat) (l0 : List S25) (a1 a2 a3 : Int) (r : List S25) (w : World) (hr0 : Kd.C k25 w A0 l0.length l0) (hc0 : l0.length ≤ c0) (h : aircheckref15_Bent.f l0 a1 a2 a3 = some r) :
    Calls Try.prog 14 #[.slice A0 l0.length c0, .int .i64 a1, .int .i64 a2, .int .i64 a3] w fun e w' => ∃ A c, e = .returned (.slice A r.length c) ∧ r.length ≤ c ∧ Kd.C k25 w' A r.length r ∧ Below w.heap.size w w' := by
  unfold aircheckref15_Bent.f at h
  split at h
  next hl =>
    have HR0 := Aside0.mk hr0
    have HC0 := Aside0.mk hc0
    have HL := Aside0.mk hl
    have HB0 := Aside0.mk (below_alloc (Below.refl w.heap.size w) (.cells #[] 25))
    have HH := Aside0.mk h
    clear hr0 hc0 hl h
    have hrow0 : Kd.R k25 25 (w.alloc (.cells #[] 25)) w.heap.size (fun _ => True) (.slice (some ⟨w.heap.size, 0, none⟩) 0 0) [] := ⟨fun _ _ => trivial, [], ⟨rfl, .inr ⟨w.heap.size, 0, #[], rfl, Nat.le_refl _, World.alloc_heap_new w _, Nat.le_refl _, by decide, by simp, rfl⟩⟩, Reps.none _ _⟩
    go_enter Try.func14, Try.ntmps14
    have h := HH.out
    clear HH
    by_cases h0 : l0.length = 0
    · rw [if_pos h0] at h
      have c0b : ((l0.length : Int) == 0) = true := beq_iff_eq.mpr (by omega)
      have c0d : l0 = [] := List.length_eq_zero_iff.1 h0
      obtain rfl := Option.some.inj h
      clear h h0
      go_wp2_with (at_builtin; refine Kd.R_append_rows k25 (w0 := w) w.heap.size rfl (.tmp 11) (.tmp 12) 23 25 (.agg #[(.int .i64 0), (.int .i64 0), (.int .i64 0)]) 24 rfl Try.underlying23 info25 rfl (by decide) (by decide) _ [] l0 _ _ _ (fun _ => True) (fun _ => False) rfl rfl hrow0 (Kd.C_alloc HR0.out _) (fun x cs h => by rw [k25_open h]; exact k25_mkM _ _ _ x) (fun _ h => h.elim) (fun _ _ => trivial) HB0.out HB0.out.size (by have := HL.out; simp; omega) ?_; intro v1 w1 ho hb1 _ _; have HR1_ := Aside0.mk (show Kd.R k25 25 w1 w.heap.size (fun _ => True) v1 l0 from ho); have HB := Aside0.mk hb1; clear ho hb1 hrow0; obtain ⟨A6, c6, e6⟩ := Kd.R_slice HR1_.out; subst e6)
      go_wp2
      go_ret
      exact bt_ret (xs := [⟨0, a2, 0⟩]) ⟨fun _ _ => trivial, [.int .i64 0, .int .i64 a2, .int .i64 0], ⟨rfl, .inr ⟨w1.heap.size, 1, #[.int .i64 0, .int .i64 a2, .int .i64 0], rfl, HB.out.size, World.alloc_heap_new w1 _, Nat.le_refl _, by decide, rfl, rfl⟩⟩, Reps.c3 (k25_mkM _ _ _ (⟨0, a2, 0⟩ : S25)) (Reps.none _ _)⟩ (below_alloc HB.out _)
    · rw [if_neg h0] at h
      have c0b : ((l0.length : Int) == 0) = false := beq_eq_false_iff_ne.mpr (by omega)
      have c0d : ¬ (l0 = []) := fun e => h0 (by rw [e]; rfl)
      have HPOS := Aside0.mk (Nat.pos_of_ne_zero h0)
      clear h0
      obtain ⟨k, hk, h⟩ := Option.bind_eq_some_iff.1 h
      obtain ⟨q, hq, h⟩ := Option.bind_eq_some_iff.1 h
      obtain ⟨e, he, h⟩ := Option.bind_eq_some_iff.1 h
      obtain ⟨o, ho, h⟩ := Option.bind_eq_some_iff.1 h
      have AK := Aside0.mk hk
      have AQ := Aside0.mk hq
      have AE := Aside0.mk he
      have AO := Aside0.mk ho
      clear hk hq he ho
      split at h
      next hkk =>
        have HKK := Aside0.mk hkk
        have HH := Aside0.mk h
        clear hkk h
        go_wp2_with (at_builtin; refine Kd.R_append_rows k25 (w0 := w) w.heap.size rfl (.tmp 11) (.tmp 12) 23 25 (.agg #[(.int .i64 0), (.int .i64 0), (.int .i64 0)]) 24 rfl Try.underlying23 info25 rfl (by decide) (by decide) _ [] l0 _ _ _ (fun _ => True) (fun _ => False) rfl rfl hrow0 (Kd.C_alloc HR0.out _) (fun x cs h => by rw [k25_open h]; exact k25_mkM _ _ _ x) (fun _ h => h.elim) (fun _ _ => trivial) HB0.out HB0.out.size (by have := HL.out; simp; omega) ?_; intro v1 w1 ho hb1 _ _; have HR1_ := Aside0.mk (show Kd.R k25 25 w1 w.heap.size (fun _ => True) v1 l0 from ho); have HB := Aside0.mk hb1; clear ho hb1 hrow0; obtain ⟨A6, c6, e6⟩ := Kd.R_slice HR1_.out; subst e6)
        go_wp2_with fail
        refine (aircheckref15_pick.calls a3 (l0.length : Int) k _ AK.out).mono ?_
        rintro e1 w2 ⟨rfl, hd1⟩
        have HB2 := Aside0.mk (below_step HB.out hd1.below)
        have HR2 := Aside0.mk (Kd.R_below HR1_.out hd1.below)
        clear hd1 HR1_ HB HB0
        go_wp2_with fail
        refine (aircheckref15_pick.calls a1 5 q _ AQ.out).mono ?_
        rintro e2 w3 ⟨rfl, hd2⟩
        have HB3 := Aside0.mk (below_step HB2.out hd2.below)
        have HR3 := Aside0.mk (Kd.R_below HR2.out hd2.below)
        clear hd2 HR2 HB2
        obtain ⟨g, c, eg, hg1, hg2, _⟩ := Kd.R_form HR3.out HPOS.out
        cases eg
        by_cases q0 : q = 0
        · subst q0
          have h := HH.out
          clear HH
          rw [if_pos rfl] at h
          obtain rfl := Option.some.inj h
          clear h
          obtain ⟨ce, hcl, hM, hcc, hfr⟩ := Kd.R_elem HR3.out z25 k HKK.out.1 HKK.out.2
          obtain rfl := k25_openM hM
          have HP := Aside0.mk (Kd.R_seg HR3.out k HKK.out.1 HKK.out.2 (seg := [.int .i64 a2]) (j := 0) hcl hcc (show 1 ≤ 3 from by decide) (x' := (⟨a2, (rd_T25 l0 k).f1, (rd_T25 l0 k).f2⟩ : S25)) (k25_mkM _ _ _ _) (fun _ hk => hk))
          have hx : w3.cell? ⟨g, k.toNat * 3, none⟩ = some (.int .i64 ((rd_T25 l0 k).f0)) := hcc 0 _ rfl
          have hf : w3.frozen? ⟨g, k.toNat * 3, none⟩ = false := hfr 0
          clear hcc hfr hM hcl
          have p1 := eq_true HKK.out.1
          have q1 := eq_true HKK.out.2
          go_wp2
          go_ret
          exact bt_ret HP.out.1 (HB3.out.setCell (p := ⟨g, k.toNat * 3, none⟩) hg1 _)
        · have t0 : (q == 0) = false := beq_eq_false_iff_ne.mpr q0
          by_cases q1 : q = 1
          · subst q1
            have h := HH.out
            clear HH
            rw [if_neg (by decide), if_pos rfl] at h
            obtain rfl := Option.some.inj h
            clear h
            obtain ⟨ce, hcl, hM, hcc, hfr⟩ := Kd.R_elem HR3.out z25 k HKK.out.1 HKK.out.2
            obtain rfl := k25_openM hM
            have HP := Aside0.mk (Kd.R_seg HR3.out k HKK.out.1 HKK.out.2 (seg := [.int .i64 a2]) (j := 1) hcl hcc (show 2 ≤ 3 from by decide) (x' := (⟨(rd_T25 l0 k).f0, a2, (rd_T25 l0 k).f2⟩ : S25)) (k25_mkM _ _ _ _) (fun _ hk => hk))
            have hx : w3.cell? ⟨g, k.toNat * 3 + 1, none⟩ = some (.int .i64 ((rd_T25 l0 k).f1)) := hcc 1 _ rfl
            have hf : w3.frozen? ⟨g, k.toNat * 3 + 1, none⟩ = false := hfr 1
            clear hcc hfr hM hcl
            have p1 := eq_true HKK.out.1
            have q1 := eq_true HKK.out.2
            go_wp2
            go_ret
            exact bt_ret HP.out.1 (HB3.out.setCell (p := ⟨g, k.toNat * 3 + 1, none⟩) hg1 _)
          · have t1 : (q == 1) = false := beq_eq_false_iff_ne.mpr q1
            by_cases q2 : q = 2
            · subst q2
              have h := HH.out
              clear HH
              rw [if_neg (by decide), if_neg (by decide), if_pos rfl] at h
              obtain rfl := Option.some.inj h
              clear h
              obtain ⟨ce, hcl, hM, hcc, hfr⟩ := Kd.R_elem HR3.out z25 k HKK.out.1 HKK.out.2
              obtain rfl := k25_openM hM
              have HP := Aside0.mk (Kd.R_seg HR3.out k HKK.out.1 HKK.out.2 (seg := [.int .i64 a2]) (j := 2) hcl hcc (show 3 ≤ 3 from by decide) (x' := (⟨(rd_T25 l0 k).f0, (rd_T25 l0 k).f1, a2⟩ : S25)) (k25_mkM _ _ _ _) (fun _ hk => hk))
              have hx : w3.cell? ⟨g, k.toNat * 3 + 2, none⟩ = some (.int .i64 ((rd_T25 l0 k).f2)) := hcc 2 _ rfl
              have hf : w3.frozen? ⟨g, k.toNat * 3 + 2, none⟩ = false := hfr 2
              clear hcc hfr hM hcl
              have p1 := eq_true HKK.out.1
              have q1 := eq_true HKK.out.2
              go_wp2
              go_ret
              exact bt_ret HP.out.1 (HB3.out.setCell (p := ⟨g, k.toNat * 3 + 2, none⟩) hg1 _)
            · have t2 : (q == 2) = false := beq_eq_false_iff_ne.mpr q2
              by_cases q3 : q = 3
              · subst q3
                have h := HH.out
                clear HH
                rw [if_neg (by decide), if_neg (by decide), if_neg (by decide), if_pos rfl] at h
                obtain ⟨a, rfl⟩ : ∃ a : Nat, k = (a : Int) := ⟨k.toNat, by have := HKK.out.1; omega⟩
                rw [Int.toNat_natCast] at h
                have HR := Aside0.mk (Option.some.inj h)
                have hal : a < l0.length := by have := HKK.out.2; omega
                have hle : l0.length ≤ c6 := (Kd.R_reads' HR3.out).2.1
                have hS0 : BtS w (some ⟨g, 0, none⟩) l0 w3 := ⟨(Kd.R_reads' HR3.out).2.2, HB3.out⟩
                obtain ⟨k1, _⟩ := bt_cut (some ⟨g, 0, none⟩) l0.length c6 a (by omega) hle
                obtain ⟨_, k2⟩ := bt_cut (some ⟨g, 0, none⟩) l0.length c6 (a + 1) (by omega) hle
                obtain ⟨ad3, hA2⟩ : ∃ ad3, (if c6 = a + 1 then some (⟨g, 0, none⟩ : Addr) else (some (⟨g, 0, none⟩ : Addr)).map (·.add ((a + 1) * 3))) = some ad3 := by split <;> exact ⟨_, rfl⟩
                rw [hA2, show ((a + 1 : Nat) : Int) = (a : Int) + 1 by omega] at k2
                have HA2 := Aside0.mk hA2
                have HAL := Aside0.mk hal
                have HLE := Aside0.mk hle
                obtain ⟨i0, hi0, hz0, hz1, hz2⟩ := info_parts info25
                have I0 := Aside0.mk (And.intro hi0 (And.intro hz0 (And.intro hz1 hz2)))
                clear hA2 hi0 hz0 hz1 hz2 h hal hle q0 q1 q2
                go_wp2
                have hwr : IntKind.i64.wrap ((a : Int) + 1) = (a : Int) + 1 := IntWalk.i64_in _ (by have := HAL.out; have := HL.out; omega)
                by_cases hlast : l0.length = a + 1
                · have HLAST := Aside0.mk hlast
                  clear hlast
                  go_region_held3 (fun W => BtS w (some ⟨g, 0, none⟩) l0 W) (first | assumption | exact BtS.drew (by assumption) | exact BtS.alloc (by assumption) _ | (show BtS w (some ⟨g, 0, none⟩) l0 w3.drew; first | assumption | exact BtS.drew (by assumption))) (first | (obtain ⟨hi0, hz0, hz1, hz2⟩ := I0.out; refine step_append_room rfl (.tmp 61) (.tmp 65) 23 rfl 25 i0 3 Try.underlying23 hi0 hz1 g 0 a a rfl ad3 (l0.length - (a + 1)) (c6 - (a + 1)) [] rfl (by have := HLAST.out; simp; omega) (fun j u h => by simp at h) (fun u h => by simp at h) (by have := HLAST.out; omega) (fun j h => by simp at h) ?_))
                  have hS4 := (by assumption : BtS w (some ⟨g, 0, none⟩) l0 _)
                  have HEQ : l0.take a = r := by rw [← HR.out, List.drop_eq_nil_of_le (by have := HLAST.out; omega), List.append_nil]
                  have hlen : a + (l0.length - (a + 1)) = r.length := by rw [← HEQ, List.length_take]; have := HLAST.out; omega
                  rw [hlen]
                  have HC5 := Aside0.mk (bt_take_C hS4.C (Nat.le_of_lt HAL.out) HEQ)
                  have HB5 := Aside0.mk hS4.bel
                  have HCA := Aside0.mk (show r.length ≤ a by rw [← HEQ, List.length_take]; omega)
                  clear hlen HEQ hS0 hS4 k1 k2 hwr
                  go_wp2
                  go_ret
                  exact ⟨_, _, rfl, HCA.out, HC5.out, HB5.out⟩
                · have HLAST := Aside0.mk hlast
                  clear hlast
                  go_region_held3 (fun W => BtS w (some ⟨g, 0, none⟩) l0 W) (first | assumption | exact BtS.drew (by assumption) | exact BtS.alloc (by assumption) _) (first | (obtain ⟨hi0, hz0, hz1, hz2⟩ := I0.out; refine step_append_grows rfl (.tmp 61) (.tmp 65) 23 rfl 25 i0 (.agg #[(.int .i64 0), (.int .i64 0), (.int .i64 0)]) 3 24 Try.underlying23 hi0 hz0 hz1 hz2 rfl (by decide) (some ⟨g, 0, none⟩) a a (bt_cells (l0.take a)) rfl (fun e => by cases e) (by rw [bt_len, List.length_take]; have := HAL.out; congr 1; omega) (fun b' e => by cases e; exact bt_take_cells (BtS.C (xs := l0) (by assumption))) ad3 (l0.length - (a + 1)) (c6 - (a + 1)) (bt_cells (l0.drop (a + 1))) rfl (by rw [bt_len, List.length_drop]) (bt_c_cells (BtS.drop (A := some ⟨g, 0, none⟩) (cap := c6) (by assumption) HLE.out HAL.out HA2.out)) (bt_one _) (by have := HLAST.out; have := HAL.out; omega) (by have := HAL.out; have := HL.out; simp [maxLen]; omega) (by have := HAL.out; have := HL.out; omega) ?_; intro v5 w5 ho5 hg5; have hS5 : BtS w (some ⟨g, 0, none⟩) l0 w5 := BtS.grown0 (by assumption) hg5))
                  have ho6 := own_weaken ho5 (Nat.le_trans hS0.bel.size (by first | exact Nat.le_refl _ | simp))
                  have HR5 := Aside0.mk (bt_own (n := a + (l0.length - (a + 1))) (xs := r) (by rw [← HR.out, List.length_append, List.length_take, List.length_drop]; have := HAL.out; omega) (by rw [← HR.out, bt_app]; exact ho6))
                  have HB5 := Aside0.mk hS5.bel
                  clear hS0 hS5 ho5 ho6 hg5 k1 k2 hwr
                  obtain ⟨A5, c5, e5⟩ := Kd.R_slice HR5.out
                  subst e5
                  go_wp2
                  go_ret
                  exact bt_ret HR5.out HB5.out
              · have t3 : (q == 3) = false := beq_eq_false_iff_ne.mpr q3
                have h := HH.out
                clear HH
                rw [if_neg q0, if_neg q1, if_neg q2, if_neg q3] at h
                obtain rfl := Option.some.inj h
                clear h q0 q1 q2 q3
                go_wp2_with fail
                refine (aircheckref15_end.calls A0 c0 l0 e _ (Kd.C_below HR0.out HB3.out) HC0.out AE.out).mono ?_
                rintro e4 w4 ⟨rfl, hd1⟩
                have HB4 := Aside0.mk (below_step HB3.out hd1.below)
                have HR4 := Aside0.mk (Kd.R_below HR3.out hd1.below)
                clear hd1 HR3 HB3
                go_wp2_with fail
                refine (aircheckref15_pick.calls a3 9 o _ AO.out).mono ?_
                rintro e5 w5 ⟨rfl, hd2⟩
                have HB5 := Aside0.mk (below_step HB4.out hd2.below)
                have HR5 := Aside0.mk (Kd.R_below HR4.out hd2.below)
                clear hd2 HR4 HB4
                go_wp2_with (at_builtin; refine Kd.R_append k25 (w0 := w) w.heap.size rfl (.tmp 26) (.tmp 33) 23 25 (.agg #[(.int .i64 0), (.int .i64 0), (.int .i64 0)]) 24 rfl Try.underlying23 info25 rfl (by decide) (by omega) (.slice (some ⟨g, 0, none⟩) l0.length c6) l0 (⟨e, a2, o⟩ : S25) [.int .i64 e, .int .i64 a2, .int .i64 o] (fun _ => True) (fun _ => False) rfl rfl (k25_mkM _ _ _ (⟨e, a2, o⟩ : S25)) (fun _ hk => hk.elim) (fun _ _ => trivial) HR5.out HB5.out HB5.out.size (by have := HL.out; omega) ?_; intro v6 w6 ho6 hb6 _ _; have HR6 := Aside0.mk ho6; have HB6 := Aside0.mk hb6; clear ho6 hb6)
                go_ret
                exact bt_ret HR6.out HB6.out
      next hkk => cases h
  next hl => cases h

end Go.Proofs.Ytbhngbjopfjacaa.PM15
