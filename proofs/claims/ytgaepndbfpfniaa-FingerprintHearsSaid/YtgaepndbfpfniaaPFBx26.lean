-- PRINTED by print.py (a twelfth state) out of the translation. Not trusted: Lean checks it.
import Derived.Test.YtgaepndbfpfniaaPFBx0
import Derived.Test.YtgaepndbfpfniaaPFBx21
import Derived.RangeFuncNested
import Derived.RangeFuncBound
import Derived.RangeFuncCalls
import Derived.RangeFuncLeaves
import Derived.RangeFuncBox
import Derived.Shelf.Abstract
import Derived.Shelf.RegionOpen
import Derived.OwnWalkIn
import Derived.TacticsInMore
import Derived.LoopNIn
import Derived.LoopIn
import Derived.OneCell
import Derived.BigQuiet
import Derived.Deep.RegionWith
import Derived.Deep.RegionHeld3
import Derived.Deep.RegionLaw
import Derived.IntWalk
import Derived.Lib.SliceRun
import Derived.Deep.RegionLawGrows
namespace Go.Proofs.Ytgaepndbfpfniaa.PFB
open Go.RowKit Go.Proofs.YtgaepndbfpfniaaW.PrintWords Go.Proofs.YtgaepndbfpfniaaW.PrintLast Go.Proofs.YtgaepndbfpfniaaW.PrintMore
attribute [local go_sem] max2_int min2_int max_two min_two max_three min_three max_four min_four   -- for this text's walks alone
set_option linter.unusedVariables false
set_option linter.unusedSimpArgs false

attribute [local go_sem] Oper.semAt_some
open Go.Shelf
-- given by hand: fp17
/-- A row of the call's own whose capacity may be less than its block. -/
structure SpRow (W : World) (B : Nat) (A : Option Addr) (cap : Nat) (xs : List Int) : Prop where
  le : xs.length ≤ cap
  none_ : A = none → xs.length = 0 ∧ cap = 0
  some_ : ∀ b, A = some b → ∃ g cells, b = ⟨g, 0, none⟩ ∧ B ≤ g ∧ W.heap[g]? = some (.cells cells 3 (0, 0)) ∧ cap ≤ cells.size ∧ cells.toList.take xs.length = nums .i64 xs
theorem SpRow.below {W W' : World} {B : Nat} {A : Option Addr} {cap : Nat} {xs : List Int} (h : SpRow W B A cap xs) (hb : Below W.heap.size W W') : SpRow W' B A cap xs :=
  ⟨h.le, h.none_, fun b e => by obtain ⟨g, cells, e1, e2, e3, e4⟩ := h.some_ b e; exact ⟨g, cells, e1, e2, blk_below e3 hb, e4⟩⟩
theorem SpRow.cell {W : World} {B : Nat} {A : Option Addr} {cap : Nat} {xs : List Int} (h : SpRow W B A cap xs) : ∀ b, A = some b → ∀ j u, (nums .i64 xs)[j]? = some u → W.cell? (b.add j) = some u := by
  intro b e j u hj
  obtain ⟨g, cells, rfl, _, hh, _, ht⟩ := h.some_ b e
  rw [← ht, List.getElem?_take] at hj
  split at hj
  · rw [add_at, Nat.zero_add, blk_cell hh j, ← hj]
    simp
  · cases hj
theorem SpRow.C {W : World} {B : Nat} {A : Option Addr} {cap : Nat} {xs : List Int} (h : SpRow W B A cap xs) (hl : xs.length ≤ 100000) : Kd.C (Kd.int .i64) W A xs.length xs := by
  cases A with
  | none =>
    have e := (h.none_ rfl).1
    have : xs = [] := List.length_eq_zero_iff.1 e
    subst this
    exact Kd.C_nil _ _
  | some b =>
    refine ⟨rfl, by omega, fun _ => ⟨b, rfl, fun j p hj => ⟨[.int .i64 p], rfl, rfl, fun i u hu => ?_⟩⟩⟩
    have := h.cell b rfl j (.int .i64 p) (by unfold nums; rw [List.getElem?_map, hj]; rfl)
    cases i with
    | zero => simp only [List.getElem?_cons_zero, Option.some.injEq] at hu; rw [← hu]; show W.cell? (b.add (j * 1 + 0)) = _; rw [Nat.mul_one, Nat.add_zero]; exact this
    | succ i => simp at hu
theorem SpRow.of_own {W : World} {B n : Nat} {v : Value} {xs : List Int} (hn : n = xs.length) (h : W.ownsRow B 3 1 v n (nums .i64 xs)) : ∃ A cap, v = .slice A xs.length cap ∧ SpRow W B A cap xs := by
  subst hn
  rcases h.2 with ⟨e, e2⟩ | ⟨g', cap, cur, e, hb, hh, h1, h2, h3, h4⟩
  · subst e
    exact ⟨none, 0, by rw [e2], ⟨by omega, fun _ => ⟨by omega, rfl⟩, (fun b e => by cases e)⟩⟩
  · subst e
    refine ⟨_, cap, rfl, ⟨h1, (fun e => by cases e), fun b e => ?_⟩⟩
    cases e
    exact ⟨g', cur, rfl, hb, hh, by omega, by rw [← h4]; simp [nums]⟩
def SpS (w : World) (A : Option Addr) (cap : Nat) (xs : List Int) (W : World) : Prop := SpRow W w.heap.size A cap xs ∧ Below w.heap.size w W
theorem SpS.size {w W : World} {A : Option Addr} {cap : Nat} {xs : List Int} (h : SpS w A cap xs W) : w.heap.size ≤ W.heap.size := h.2.size
theorem SpS.alloc {w W : World} {A : Option Addr} {cap : Nat} {xs : List Int} (h : SpS w A cap xs W) (o : Obj) : SpS w A cap xs (W.alloc o) := ⟨h.1.below (below_alloc (Below.refl _ _) _), below_alloc h.2 _⟩
theorem SpS.drew {w W : World} {A : Option Addr} {cap : Nat} {xs : List Int} (h : SpS w A cap xs W) : SpS w A cap xs W.drew := ⟨h.1.below (below_drew (Below.refl _ _)), below_drew h.2⟩
theorem SpRow.lt {W : World} {B : Nat} {A : Option Addr} {cap : Nat} {xs : List Int} (h : SpRow W B A cap xs) : ∀ b, A = some b → b.block < W.heap.size := fun b e => by
  obtain ⟨g, cells, rfl, _, hh, _⟩ := h.some_ b e
  exact blk_lt hh
/-- A block that is not this one's has been grown. -/
theorem SpS.grown {w X W' : World} {A : Option Addr} {cap : Nat} {xs : List Int} (h : SpS w A cap xs X) {N : Nat} (hg : X.grownBy W' (some N)) (hN : ∀ b, A = some b → b.block < N) (hw : w.heap.size ≤ N) : SpS w A cap xs W' := by
  refine ⟨⟨h.1.le, h.1.none_, fun b e => ?_⟩, h.2.grown hg h.2.size (fun k e => by cases e; exact hw)⟩
  obtain ⟨g, cells, e1, e2, e3, e4⟩ := h.1.some_ b e
  exact ⟨g, cells, e1, e2, blk_grown e3 hg (fun q => by cases q; have := hN b e; rw [e1] at this; exact absurd this (Nat.lt_irrefl _)), e4⟩
theorem SpS.grown0 {w X W' : World} {A : Option Addr} {cap : Nat} {xs : List Int} (h : SpS w A cap xs X) (hg : X.grownBy W' none) : SpS w A cap xs W' := by
  refine ⟨⟨h.1.le, h.1.none_, fun b e => ?_⟩, h.2.grown hg h.2.size (fun k e => by cases e)⟩
  obtain ⟨g, cells, e1, e2, e3, e4⟩ := h.1.some_ b e
  exact ⟨g, cells, e1, e2, blk_grown e3 hg (fun q => by cases q), e4⟩
theorem SpS.bel {w W : World} {A : Option Addr} {cap : Nat} {xs : List Int} (h : SpS w A cap xs W) : Below w.heap.size w W := h.2
theorem sp_one {B : Nat} (W : World) (x : Int) (hB : B ≤ W.heap.size) : Kd.R (Kd.int .i64) 3 (W.alloc (.cells #[.int .i64 x] 3)) B (fun _ => True) (.slice (some ⟨W.heap.size, 0, none⟩) 1 1) [x] :=
  Kd.R_of_own (xs := [x]) ⟨rfl, .inr ⟨W.heap.size, 1, #[.int .i64 x], rfl, hB, World.alloc_heap_new W _, Nat.le_refl _, by decide, rfl, rfl⟩⟩ (fun _ _ => trivial)
theorem sp_cut (A : Option Addr) (n c a : Nat) (ha : a ≤ n) (hc : n ≤ c) :
    (∀ W, (Instr.slice 22 (.slice A n c) none (some (.int .i64 (a : Int))) (some (.int .i64 (a : Int)))).run Try.prog W = .ok (.slice A a a) W) ∧
    (∀ W, (Instr.slice 22 (.slice A n c) (some (.int .i64 (a : Int))) none none).run Try.prog W = .ok (.slice (if c = a then A else A.map (·.add (a * 1))) (n - a) (c - a)) W) := by
  obtain ⟨i0, hi0, _, hs, _⟩ := info_parts info3
  have ht := Try.underlying22
  have hel : Try.prog.elem 22 = 3 := by simp [Program.elem, ht]
  have hu : Try.prog.underlying 22 = some (.slice (Try.prog.elem 22)) := by rw [hel]; exact ht
  refine ⟨fun W => ?_, fun W => ?_⟩
  · rw [run_slice_hm W 22 _ n c hu .i64 .i64 _ _ (by omega) (by omega) (by omega), hel]
    have h0 : (A.map fun x => x.add 0) = A := by cases A <;> simp [Addr.add]
    simp [sizeOf, typeInfo, hi0, hs, sliced, Result.andThen, h0]
  · have := cut_from (P := Try.prog) 22 3 .i64 ht hi0 1 hs A n c (a : Int) (by omega) (by omega) W
    rw [Int.toNat_natCast] at this
    exact this
theorem SpS.drop {w W : World} {A A2 : Option Addr} {cap a : Nat} {xs : List Int} (h : SpS w A cap xs W) (hl : xs.length ≤ 1000) (ha : a ≤ xs.length) (e : (if cap = a then A else A.map (·.add (a * 1))) = A2) : Kd.C (Kd.int .i64) W A2 (xs.length - a) (xs.drop a) := by
  have := Kd.C_drop (c := cap) (h.1.C (by omega)) ha h.1.le
  rw [show (Kd.int .i64).sz = 1 from rfl, e, List.length_drop] at this
  exact this
theorem SpS.row {w W : World} {A : Option Addr} {cap : Nat} {xs : List Int} (h : SpS w A cap xs W) : SpRow W w.heap.size A cap xs := h.1
theorem sp_none {W : World} {B : Nat} {A : Option Addr} {cap a : Nat} {xs : List Int} (h : SpRow W B A cap xs) (ha : a ≤ xs.length) : A = none → a = 0 ∧ a = 0 := fun e => by have := h.none_ e; omega
theorem SpRow.take_cell {W : World} {B : Nat} {A : Option Addr} {cap a : Nat} {xs : List Int} (h : SpRow W B A cap xs) (ha : a ≤ xs.length) : ∀ b, A = some b → ∀ j u, (nums .i64 (xs.take a))[j]? = some u → W.cell? (b.add j) = some u := fun b e j u hj => h.cell b e j u (by
  unfold nums at hj ⊢
  rw [List.map_take, List.getElem?_take] at hj
  split at hj
  · exact hj
  · cases hj)
theorem sp_cells {W : World} {B g n c : Nat} {ok : Nat → Prop} {xs : List Int} (h : Kd.R (Kd.int .i64) 3 W B ok (.slice (some ⟨g, 0, none⟩) n c) xs) : ∀ j u, (nums .i64 xs)[j]? = some u → W.cell? ((⟨g, 0, none⟩ : Addr).add j) = some u := by
  obtain ⟨A, cap, e, hs⟩ := SpRow.of_own rfl (Kd.own_of_R h)
  injection e with e1
  subst e1
  exact fun j u hj => hs.cell _ rfl j u hj
theorem nums_one (xs : List Int) : ∀ u ∈ nums .i64 xs, u.oneCell' = true := fun u hu => by
  unfold nums at hu
  obtain ⟨y, _, rfl⟩ := List.mem_map.1 hu
  rfl
theorem c_cells {W : World} {ad : Addr} {n : Nat} {ys : List Int} (h : Kd.C (Kd.int .i64) W (some ad) n ys) : ∀ j u, (nums .i64 ys)[j]? = some u → W.cell? (ad.add j) = some u := fun j u hj => by
  unfold nums at hj
  rw [List.getElem?_map] at hj
  obtain ⟨p, hp, rfl⟩ := Option.map_eq_some_iff.1 hj
  have hl := (List.getElem?_eq_some_iff.1 hp).1
  obtain ⟨ad', e, hc⟩ := h.2.2 (by have := h.1; omega)
  cases e
  obtain ⟨c, hs, hr, hcell⟩ := hc j p hp
  cases hr
  have := hcell 0 _ rfl
  rw [show j * (Kd.int .i64).sz + 0 = j from by show j * 1 + 0 = j; omega] at this
  exact this
theorem SpRow.put {W : World} {B g cap a : Nat} {xs : List Int} (h : SpRow W B (some ⟨g, 0, none⟩) cap xs) (x : Int) : SpRow (W.setCell ⟨g, a, none⟩ (.int .i64 x)) B (some ⟨g, 0, none⟩) cap (xs.set a x) := by
  refine ⟨by rw [List.length_set]; exact h.le, (fun e => by cases e), fun b e => ?_⟩
  obtain ⟨g', cells, e1, e2, e3, e4, e5⟩ := h.some_ _ rfl
  cases e1
  cases e
  refine ⟨g, _, rfl, e2, blk_set e3 a _, by simpa using e4, ?_⟩
  rw [List.length_set, Array.toList_setIfInBounds, List.take_set, e5]
  unfold nums
  rw [List.map_set]
theorem sp_view {W w : World} {A : Option Addr} {cap : Nat} {xs : List Int} (h : SpRow W w.heap.size A cap xs) (hl : xs.length ≤ 1001) : Kd.V (Kd.int .i64) 3 W w.heap.size (fun k_ => w.heap.size ≤ k_) (.slice A xs.length cap) xs :=
  Kd.V_mk h.le (fun W' hW => SpRow.C (W := W') (B := w.heap.size) (cap := cap) ⟨h.le, h.none_, fun b e => by
    obtain ⟨g, cells, e1, e2, e3, e4⟩ := h.some_ b e
    exact ⟨g, cells, e1, e2, (hW g e2 (blk_lt e3)).trans e3, e4⟩⟩ (by omega))
theorem SpRow.cut {W : World} {B cap a : Nat} {b : Addr} {xs : List Int} (h : SpRow W B (some b) cap xs) (ha : a ≤ xs.length) : SpRow W B (some b) a (xs.take a) := by
  refine ⟨by rw [List.length_take]; omega, (fun e => by cases e), fun b' e => ?_⟩
  cases e
  obtain ⟨g, cells, e1, e2, e3, e4, e5⟩ := h.some_ _ rfl
  have hle := h.le
  refine ⟨g, cells, e1, e2, e3, by omega, ?_⟩
  have e6 := congrArg (List.take a) e5
  rw [List.take_take] at e6
  rw [List.length_take]
  unfold nums at e6 ⊢
  rw [← List.map_take] at e6
  exact e6
def fp_spoil (out : List Int) (n : Int) (x : S29) : Option (List Int × Int) :=
  (aircheckref36_pick.f x.f1 ((out.length : Int) + 1)).bind fun at_ =>
  (aircheckref36_pick.f x.f2 7).bind fun cd =>
  (aircheckref36_pick.f x.f0 3).bind fun op =>
  if 0 ≤ at_ ∧ at_ ≤ (out.length : Int) ∧ out.length ≤ 1000 ∧ 0 ≤ n ∧ n ≤ 1000 ∧ 0 ≤ cd ∧ cd ≤ 7 then
    if op = 0 then some (out.take at_.toNat ++ (cd - 1) :: out.drop at_.toNat, n + 1)
    else if op = 1 then if at_ < (out.length : Int) then some (out.take at_.toNat ++ out.drop (at_.toNat + 1), n + 1) else some (out, n)
    else if at_ < (out.length : Int) then some (out.set at_.toNat (cd - 1), n + 1) else some (out, n)
  else none
theorem fp_spoil_len {out : List Int} {n : Int} {x : S29} {q : List Int × Int} (h : fp_spoil out n x = some q) : q.1.length ≤ 1001 := by
  unfold fp_spoil at h
  obtain ⟨at_, e1, h⟩ := Option.bind_eq_some_iff.1 h
  obtain ⟨cd, e2, h⟩ := Option.bind_eq_some_iff.1 h
  obtain ⟨op, e3, h⟩ := Option.bind_eq_some_iff.1 h
  split at h
  next c =>
    split at h
    · cases h; simp; omega
    · split at h
      · split at h
        · cases h; simp; omega
        · cases h; show out.length ≤ 1001; omega
      · split at h
        · cases h; simp; omega
        · cases h; show out.length ≤ 1001; omega
  next c => cases h
def fp_spoils : List S29 → List Int → Int → Option (List Int × Int)
  | [], out, n => some (out, n)
  | x :: xs, out, n => (fp_spoil out n x).bind fun r => fp_spoils xs r.1 r.2
def aircheckref36_Spoiled.f (l0 : List Int) (l1 : List S29) : Option (List Int × Int) := if l0.length ≤ 900 then fp_spoils (l1.take 4) l0 0 else none
theorem fp_spoils_step {l : List S29} {j : Nat} (hj : j < l.length) (h4 : j < 4) {out : List Int} {n : Int} {r : List Int × Int} (h : fp_spoils ((l.take 4).drop j) out n = some r) :
    ∃ q, fp_spoil out n (rd_T29 l (j : Int)) = some q ∧ fp_spoils ((l.take 4).drop (j + 1)) q.1 q.2 = some r := by
  rw [List.drop_eq_getElem_cons (by simp; omega)] at h
  obtain ⟨q, e1, e2⟩ := Option.bind_eq_some_iff.1 h
  rw [List.getElem_take, show l[j] = rd_T29 l (j : Int) by simp [rd_T29, hj]] at e1
  exact ⟨q, e1, e2⟩
theorem fp_spoils_done {l : List S29} {j : Nat} (hj : ¬ (j < l.length ∧ j < 4)) {out : List Int} {n : Int} {r : List Int × Int} (h : fp_spoils ((l.take 4).drop j) out n = some r) : r = (out, n) := by
  rw [List.drop_eq_nil_of_le (by simp; omega)] at h
  exact (Option.some.inj h).symm
set_option maxRecDepth 100000 in
set_option maxHeartbeats 4000000 in
theorem aircheckref36_Spoiled.calls (A0 : Option Addr) (c0 : Nat) (l0 : List Int) (A1 : Option Addr) (c1 : Nat) (l1 : List S29) (r1 : List Int) (r2 : Int) (w : World) (hr0 : Kd.C (Kd.int .i64) w A0 l0.length l0) (hc0 : l0.length ≤ c0) (hr1 : Kd.C k29 w A1 l1.length l1) (hc1 : l1.length ≤ c1) (h : aircheckref36_Spoiled.f l0 l1 = some (r1, r2)) :
    Calls Try.prog 37 #[.slice A0 l0.length c0, .slice A1 l1.length c1] w fun e w' => ∃ v0_ : Value, e = .returned (.tuple #[v0_, .int .i64 r2]) ∧ Kd.V (Kd.int .i64) 3 w' w.heap.size (fun k_ => w.heap.size ≤ k_) v0_ r1 ∧ Below w.heap.size w w' := by
  unfold aircheckref36_Spoiled.f at h
  split at h
  next hl =>
    have HR0 := Aside0.mk hr0
    have HC0 := Aside0.mk hc0
    have HR1 := Aside0.mk hr1
    have HC1 := Aside0.mk hc1
    have HL := Aside0.mk hl
    have HH := Aside0.mk h
    have hb0 : Below w.heap.size w (w.alloc (.cells #[] 3)) := below_alloc (Below.refl _ _) _
    have HB0 := Aside0.mk hb0
    clear hr0 hc0 hr1 hc1 hl h hb0
    go_enter Try.func37, Try.ntmps37
    have hrow0 : Kd.R (Kd.int .i64) 3 (w.alloc (.cells #[] 3)) w.heap.size (fun _ => True) (.slice (some ⟨w.heap.size, 0, none⟩) 0 0) [] := Kd.R_of_own (xs := []) ⟨rfl, .inr ⟨w.heap.size, 0, #[], rfl, Nat.le_refl _, World.alloc_heap_new w _, Nat.le_refl _, by decide, by simp, rfl⟩⟩ (fun _ _ => trivial)
    go_wp2_with (at_builtin; refine Kd.R_append_rows (Kd.int .i64) (w0 := w) w.heap.size rfl (.tmp 11) (.tmp 12) 22 3 (.int .i64 0) 8 rfl Try.underlying22 info3 rfl (by decide) (by decide) _ [] l0 _ _ _ (fun _ => True) (fun _ => False) rfl rfl hrow0 (Kd.C_alloc HR0.out _) (fun _ _ h => h) (fun _ h => h.elim) (fun _ _ => trivial) HB0.out HB0.out.size (by have := HL.out; simp; omega) ?_; intro v1 w1 ho hb1 _ _; have HR1_ := Aside0.mk (show Kd.R (Kd.int .i64) 3 w1 w.heap.size (fun _ => True) v1 l0 from ho); have HB1 := Aside0.mk hb1; clear ho hb1 hrow0)
    obtain ⟨A6, c6, rfl, hs6⟩ := SpRow.of_own rfl (Kd.own_of_R HR1_.out)
    have HS6 := Aside0.mk hs6
    clear hs6 HR1_
    go_wp2
    go_loopw [6, 7, 8] (fun o n p wr => ∃ (j : Nat) (out : List Int) (e : Int) (A : Option Addr) (cap : Nat), j ≤ 4 ∧ p = .int .i64 j ∧ n = .int .i64 e ∧ o = .slice A out.length cap ∧ Aside0 (SpRow wr w.heap.size A cap out) ∧ Aside0 (fp_spoils ((l1.take 4).drop j) out e = some (r1, r2)) ∧ Aside0 (out.length ≤ 1001) ∧ Aside0 (Below w.heap.size w wr)) (fun _ _ p _ => 4 - (intOf p).toNat)
    case atStart => exact ⟨0, l0, 0, A6, c6, by omega, rfl, rfl, rfl, HS6, HH, ⟨by have := HL.out; omega⟩, HB1⟩
    case round =>
      obtain ⟨j, out, n, A, cap, hj, rfl, rfl, rfl, HS, HF, HLO, HB⟩ := hrel
      clear HS6 HB1 HH HB0 HR0
      by_cases hlt : j < l1.length ∧ j < 4
      · obtain ⟨hj1, hj2⟩ := hlt
        obtain ⟨⟨o2, n2⟩, g1, g2⟩ := fp_spoils_step hj1 hj2 HF.out
        have i1 : (j : Int) < l1.length := by omega
        have i2 : (j : Int) < 4 := by omega
        have i3 : (0 : Int) ≤ j := by omega
        obtain ⟨x, hx⟩ : ∃ x, rd_T29 l1 (j : Int) = x := ⟨_, rfl⟩
        obtain ⟨ad, rfl, hx0, hx1, hx2⟩ := at_T29 (Kd.C_below HR1.out HB.out) (j : Int) i3 i1
        rw [hx] at g1 hx0 hx1 hx2
        rw [Int.toNat_natCast] at hx0 hx1 hx2
        have hl2 : o2.length ≤ 1001 := fp_spoil_len g1
        unfold fp_spoil at g1
        obtain ⟨at_, e1, g1⟩ := Option.bind_eq_some_iff.1 g1
        obtain ⟨cd, e2, g1⟩ := Option.bind_eq_some_iff.1 g1
        obtain ⟨op, e3, g1⟩ := Option.bind_eq_some_iff.1 g1
        split at g1
        next hc =>
          obtain ⟨b1, b2, b3, b4, b5, b6, b7⟩ := hc
          obtain ⟨a, rfl⟩ : ∃ a : Nat, at_ = a := ⟨at_.toNat, by omega⟩
          have b2 : a ≤ out.length := by omega
          rw [Int.toNat_natCast] at g1
          have HL2 := Aside0.mk hl2
          clear hl2
          have E1 := Aside0.mk e1
          have E2 := Aside0.mk e2
          have E3 := Aside0.mk e3
          have G1 := Aside0.mk g1
          have G2 := Aside0.mk g2
          have HX1 := Aside0.mk hx1
          have HX2 := Aside0.mk hx2
          have HX0 := Aside0.mk hx0
          clear e1 e2 e3 g1 g2 HF hx hx0 hx2
          go_wp2_with fail
          refine (aircheckref36_pick.calls x.f1 ((out.length : Int) + 1) (a : Int) _ E1.out).mono ?_
          rintro e w1 ⟨rfl, hd1⟩
          have HW1 := Aside0.mk hd1.below
          have hy2 := pw_cell_below hd1.below HX2.out
          clear hd1 hx1
          go_wp2_with fail
          refine (aircheckref36_pick.calls x.f2 7 cd _ E2.out).mono ?_
          rintro e w2 ⟨rfl, hd2⟩
          have HW2 := Aside0.mk (below_step HW1.out hd2.below)
          have hy0 := pw_cell_below (below_step HW1.out hd2.below) HX0.out
          clear hd2 hy2 HW1
          go_wp2_with fail
          refine (aircheckref36_pick.calls x.f0 3 op _ E3.out).mono ?_
          rintro e w3 ⟨rfl, hd3⟩
          have hw3 := below_step HW2.out hd3.below
          have HB3 := Aside0.mk (below_step HB.out hw3)
          have HS3 := Aside0.mk (HS.out.below hw3)
          clear hd3 hy0 HW2 hw3 HS HB E1 E2 E3 HX0 HX1 HX2
          have g1 := G1.out
          clear G1
          by_cases o0 : op = 0
          · subst o0
            rw [if_pos rfl] at g1
            obtain ⟨eo, en⟩ := Prod.mk.inj (Option.some.inj g1)
            subst en
            have EO := Aside0.mk eo
            clear g1 eo
            have hS0 : SpS w A cap out w3 := ⟨HS3.out, HB3.out⟩
            have HZ3 := Aside0.mk HB3.out.size
            have HLT3 := Aside0.mk HS3.out.lt
            obtain ⟨k1, k2⟩ := sp_cut A out.length cap a b2 HS3.out.le
            obtain ⟨A2, hA2⟩ : ∃ A2, (if cap = a then A else A.map (·.add (a * 1))) = A2 := ⟨_, rfl⟩
            rw [hA2] at k2
            have HA2 := Aside0.mk hA2
            obtain ⟨i0, hi0, hz0, hz1, hz2⟩ := info_parts info3
            have I0 := Aside0.mk (And.intro hi0 (And.intro hz0 (And.intro hz1 hz2)))
            clear hA2 hi0 hz0 hz1 hz2
            go_wp2
            go_region_held3 (fun W => SpS w A cap out W) (first | assumption | exact SpS.drew (by assumption) | exact SpS.alloc (by assumption) _) (first | (refine Kd.R_append_rows_step (Kd.int .i64) (w0 := w) w.heap.size (by rfl) (.tmp 63) (.tmp 66) 22 3 (.int .i64 0) 8 rfl Try.underlying22 info3 rfl (by decide) (by decide) _ [cd - 1] (out.drop a) _ _ _ (fun _ => True) (fun _ => False) rfl rfl (by first | exact sp_one _ _ HZ3.out | exact Kd.R_drew (sp_one _ _ HZ3.out) | exact sp_one _ _ HZ3.out) (SpS.drop (A := A) (cap := cap) (by assumption) b3 b2 HA2.out) (fun _ _ h => h) (fun _ h => h.elim) (fun _ _ => trivial) (SpS.bel (A := A) (cap := cap) (xs := out) (by assumption)) (SpS.size (A := A) (cap := cap) (xs := out) (by assumption)) (by simp; omega) ?_; intro v4 w4 hr4 hb4 hg4 _; have hS4 : SpS w A cap out w4 := SpS.grown (by assumption) hg4 HLT3.out HZ3.out; have HR4 := Aside0.mk hr4; clear hr4 hb4 hg4; obtain ⟨g4, cap4, eq4, _, _, _⟩ := Kd.R_form HR4.out (by simp); subst eq4) | (obtain ⟨hi0, hz0, hz1, hz2⟩ := I0.out; refine step_append_grows rfl (.tmp 61) (.tmp 67) 22 rfl 3 i0 (.int .i64 0) 1 8 Try.underlying22 hi0 hz0 hz1 hz2 rfl (by decide) A a a (nums .i64 (out.take a)) rfl (sp_none HS3.out b2) (by simp [nums]; omega) (fun b e => SpRow.take_cell (SpS.row (A := A) (cap := cap) (xs := out) (by assumption)) b2 b e) ⟨g4, 0, none⟩ _ cap4 (nums .i64 ([cd - 1] ++ out.drop a)) rfl (by simp [nums]) (sp_cells HR4.out) (nums_one _) (by simp <;> omega) (by simp [maxLen]; omega) (by simp; omega) ?_; intro v5 w5 ho5 hg5; have hS5 : SpS w A cap out w5 := SpS.grown0 (by assumption) hg5))
            have ho6 := own_weaken ho5 (SpS.size hS4)
            have hlen : a + ([cd - 1] ++ out.drop a).length = o2.length := by rw [← EO.out]; simp; omega
            obtain ⟨A5, c5, eq5, hs5⟩ := SpRow.of_own (xs := o2) hlen (by rw [← EO.out, show out.take a ++ (cd - 1) :: out.drop a = out.take a ++ ([cd - 1] ++ out.drop a) from rfl, nums_append]; exact ho6)
            subst eq5
            have HS5 := Aside0.mk hs5
            have HB5 := Aside0.mk hS5.2
            clear hS0 hS4 hS5 HR4 ho5 ho6 hlen hs5 HS3 HB3 k1 k2 hg5
            go_wp2
            go_roundw
            case rel => exact ⟨j + 1, o2, n + 1, A5, c5, by omega, by go_num, rfl, rfl, HS5, G2, HL2, HB5⟩
            case measure => simp [intOf]; omega
          · by_cases o1 : op = 1
            · subst o1
              rw [if_neg (by omega), if_pos rfl] at g1
              by_cases hat : (a : Int) < (out.length : Int)
              · rw [if_pos hat] at g1
                obtain ⟨eo, en⟩ := Prod.mk.inj (Option.some.inj g1)
                subst en
                have EO := Aside0.mk eo
                clear g1 eo
                obtain ⟨b, rfl⟩ : ∃ b, A = some b := by
                  cases A with
                  | some b => exact ⟨b, rfl⟩
                  | none => have := (HS3.out.none_ rfl).1; omega
                have hS0 : SpS w (some b) cap out w3 := ⟨HS3.out, HB3.out⟩
                obtain ⟨k1, _⟩ := sp_cut (some b) out.length cap a b2 HS3.out.le
                obtain ⟨_, k2⟩ := sp_cut (some b) out.length cap (a + 1) (by omega) HS3.out.le
                obtain ⟨ad3, hA2⟩ : ∃ ad3, (if cap = a + 1 then some b else (some b).map (·.add ((a + 1) * 1))) = some ad3 := by split <;> exact ⟨_, rfl⟩
                rw [hA2, show ((a + 1 : Nat) : Int) = (a : Int) + 1 by omega] at k2
                have HA2 := Aside0.mk hA2
                obtain ⟨i0, hi0, hz0, hz1, hz2⟩ := info_parts info3
                have I0 := Aside0.mk (And.intro hi0 (And.intro hz0 (And.intro hz1 hz2)))
                clear hA2 hi0 hz0 hz1 hz2
                by_cases hlast : out.length = a + 1
                · obtain ⟨g, cells, rfl, _, _, _, _⟩ := HS3.out.some_ b rfl
                  have HLAST := Aside0.mk hlast
                  clear hlast
                  go_wp2
                  have hwr : IntKind.i64.wrap ((a : Int) + 1) = (a : Int) + 1 := IntWalk.i64_in _ (by omega)
                  go_region_held3 (fun W => SpS w (some ⟨g, 0, none⟩) cap out W) (first | assumption | exact SpS.drew (by assumption) | exact SpS.alloc (by assumption) _) (first | (obtain ⟨hi0, hz0, hz1, hz2⟩ := I0.out; refine step_append_room rfl (.tmp 80) (.tmp 84) 22 rfl 3 i0 1 Try.underlying22 hi0 hz1 g 0 a a rfl ad3 (out.length - (a + 1)) (cap - (a + 1)) [] rfl (by have := HLAST.out; simp; omega) (fun j u h => by simp at h) (fun u h => by simp at h) (by have := HLAST.out; omega) (fun j h => by simp at h) ?_))
                  have hS4 := (by assumption : SpS w (some ⟨g, 0, none⟩) cap out _)
                  have HEQ : out.take a = o2 := by rw [← EO.out, List.drop_eq_nil_of_le (by have := HLAST.out; omega), List.append_nil]
                  have HS5 := Aside0.mk (show SpRow _ w.heap.size (some ⟨g, 0, none⟩) a o2 by rw [← HEQ]; exact (SpS.row hS4).cut b2)
                  have HB5 := Aside0.mk (SpS.bel hS4)
                  have hlen : a + (out.length - (a + 1)) = o2.length := by rw [← HEQ, List.length_take]; have := HLAST.out; omega
                  rw [hlen]
                  clear hlen HEQ hS0 hS4 k1 k2 hwr HS3 HB3
                  go_wp2
                  go_roundw
                  case rel => exact ⟨j + 1, o2, n + 1, some ⟨g, 0, none⟩, a, by omega, by go_num, rfl, rfl, HS5, G2, HL2, HB5⟩
                  case measure => simp [intOf]; omega
                · have HLAST := Aside0.mk hlast
                  clear hlast
                  go_wp2
                  have hwr : IntKind.i64.wrap ((a : Int) + 1) = (a : Int) + 1 := IntWalk.i64_in _ (by omega)
                  go_region_held3 (fun W => SpS w (some b) cap out W) (first | assumption | exact SpS.drew (by assumption) | exact SpS.alloc (by assumption) _) (first | (obtain ⟨hi0, hz0, hz1, hz2⟩ := I0.out; refine step_append_grows rfl (.tmp 80) (.tmp 84) 22 rfl 3 i0 (.int .i64 0) 1 8 Try.underlying22 hi0 hz0 hz1 hz2 rfl (by decide) (some b) a a (nums .i64 (out.take a)) rfl (fun e => by cases e) (by simp [nums]; omega) (fun b' e => SpRow.take_cell (SpS.row (A := some b) (cap := cap) (xs := out) (by assumption)) b2 b' e) ad3 (out.length - (a + 1)) (cap - (a + 1)) (nums .i64 (out.drop (a + 1))) rfl (by simp [nums]) (c_cells (SpS.drop (A := some b) (cap := cap) (by assumption) b3 (by omega) HA2.out)) (nums_one _) (by have := HLAST.out; omega) (by simp [maxLen]; omega) (by omega) ?_; intro v5 w5 ho5 hg5; have hS5 : SpS w (some b) cap out w5 := SpS.grown0 (by assumption) hg5))
                  have ho6 := own_weaken ho5 (Nat.le_trans hS0.size (by first | exact Nat.le_refl _ | simp))
                  have hlen : a + (out.length - (a + 1)) = o2.length := by rw [← EO.out]; simp; omega
                  obtain ⟨A5, c5, eq5, hs5⟩ := SpRow.of_own (xs := o2) hlen (by rw [← EO.out, nums_append]; exact ho6)
                  subst eq5
                  have HS5 := Aside0.mk hs5
                  have HB5 := Aside0.mk hS5.2
                  clear hS0 hS5 ho5 ho6 hlen hs5 HS3 HB3 k1 k2 hg5 hwr
                  go_wp2
                  go_roundw
                  case rel => exact ⟨j + 1, o2, n + 1, A5, c5, by omega, by go_num, rfl, rfl, HS5, G2, HL2, HB5⟩
                  case measure => simp [intOf]; omega
              · rw [if_neg hat] at g1
                obtain ⟨eo, en⟩ := Prod.mk.inj (Option.some.inj g1)
                subst eo en
                clear g1
                have hat' : decide ((a : Int) < (out.length : Int)) = false := decide_eq_false hat
                go_wp2
                go_roundw
                case rel => exact ⟨j + 1, out, n, A, cap, by omega, by go_num, rfl, rfl, HS3, G2, HL2, HB3⟩
                case measure => simp [intOf]; omega
            · have t0 : (op == 0) = false := by simpa using o0
              have t1 : (op == 1) = false := by simpa using o1
              rw [if_neg o0, if_neg o1] at g1
              by_cases hat : (a : Int) < (out.length : Int)
              · rw [if_pos hat] at g1
                obtain ⟨eo, en⟩ := Prod.mk.inj (Option.some.inj g1)
                subst en
                have EO := Aside0.mk eo
                clear g1 eo
                obtain ⟨b, rfl⟩ : ∃ b, A = some b := by
                  cases A with
                  | some b => exact ⟨b, rfl⟩
                  | none => have := (HS3.out.none_ rfl).1; omega
                obtain ⟨g, cells, rfl, hgB, hgg, hgc, hgt⟩ := HS3.out.some_ b rfl
                have hle := HS3.out.le
                have hcell : (w3.cell? ⟨g, a, none⟩).isSome = true := by rw [blk_cell hgg a]; simp; omega
                obtain ⟨u0, hcell⟩ := Option.isSome_iff_exists.1 hcell
                have hfr := blk_frozen hgg a
                have HS5 := Aside0.mk (show SpRow (w3.setCell ⟨g, a, none⟩ (.int .i64 (cd - 1))) w.heap.size (some ⟨g, 0, none⟩) cap o2 by rw [← EO.out]; exact HS3.out.put (cd - 1))
                have HB5 := Aside0.mk (HB3.out.setCell (p := ⟨g, a, none⟩) hgB (.int .i64 (cd - 1)))
                have HLEN := Aside0.mk (show out.length = o2.length by rw [← EO.out, List.length_set])
                clear hgB hgg hgc hgt hle HS3 HB3
                go_wp2
                go_roundw
                case rel => exact ⟨j + 1, o2, n + 1, some ⟨g, 0, none⟩, cap, by omega, by go_num, rfl, by rw [← HLEN.out], HS5, G2, HL2, HB5⟩
                case measure => simp [intOf]; omega
              · rw [if_neg hat] at g1
                obtain ⟨eo, en⟩ := Prod.mk.inj (Option.some.inj g1)
                subst eo en
                clear g1
                have hat' : decide ((a : Int) < (out.length : Int)) = false := decide_eq_false hat
                go_wp2
                go_roundw
                case rel => exact ⟨j + 1, out, n, A, cap, by omega, by go_num, rfl, rfl, HS3, G2, HL2, HB3⟩
                case measure => simp [intOf]; omega
        next hc => cases g1
      · have hd := fp_spoils_done hlt HF.out
        obtain ⟨e1, e2⟩ := Prod.mk.inj hd
        subst e1 e2
        have HE := Aside0.mk hlt
        by_cases hl1 : j < l1.length
        · have i1 : decide ((j : Int) < (l1.length : Int)) = true := decide_eq_true (by omega)
          have i2 : decide ((j : Int) < 4) = false := decide_eq_false (by omega)
          clear hlt hd
          go_wp2
          go_ret2
          exact ⟨_, rfl, sp_view HS.out HLO.out, HB.out⟩
        · have i1 : decide ((j : Int) < (l1.length : Int)) = false := decide_eq_false (by omega)
          clear hlt hd
          go_wp2
          go_ret2
          exact ⟨_, rfl, sp_view HS.out HLO.out, HB.out⟩
  next hl => cases h

end Go.Proofs.Ytgaepndbfpfniaa.PFB
