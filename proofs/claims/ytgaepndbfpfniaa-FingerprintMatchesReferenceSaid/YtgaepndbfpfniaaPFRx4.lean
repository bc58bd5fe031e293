-- PRINTED by print.py (a twelfth state) out of the translation. Not trusted: Lean checks it.
import Derived.Test.YtgaepndbfpfniaaPFRx0
import Derived.RangeFuncNested
import Derived.RangeFuncBound
import Derived.RangeFuncCalls
import Derived.RangeFuncLeaves
import Derived.RangeFuncBox
import Derived.Shelf.Abstract
import Derived.Shelf.RegionOpen
import Derived.OwnWalkIn
import Derived.TacticsInMore
import Derived.LoopNIn
import Derived.LoopIn
import Derived.OneCell
import Derived.BigQuiet
import Derived.Deep.RegionWith
import Derived.Deep.RegionHeld3
import Derived.Deep.RegionLaw
import Derived.IntWalk
import Derived.Lib.SliceRun
namespace Go.Proofs.Ytgaepndbfpfniaa.PFR
open Go.RowKit Go.Proofs.YtgaepndbfpfniaaW.PrintWords Go.Proofs.YtgaepndbfpfniaaW.PrintLast Go.Proofs.YtgaepndbfpfniaaW.PrintMore
attribute [local go_sem] max2_int min2_int max_two min_two max_three min_three max_four min_four   -- for this text's walks alone
set_option linter.unusedVariables false
set_option linter.unusedSimpArgs false

attribute [local go_sem] Oper.semAt_some
open Go.Shelf
-- given by hand: fp3
def fp_row (W : World) (g : Nat) (r : List Int) : Prop := W.heap[g]? = some (.cells (nums .i64 r).toArray 3 (0, 0))
theorem fp_row.lt {W : World} {g : Nat} {r : List Int} (h : fp_row W g r) : g < W.heap.size := blk_lt h
theorem fp_row.cell {W : World} {g : Nat} {r : List Int} (h : fp_row W g r) {i : Nat} (hi : i < r.length) : W.cell? ⟨g, i, none⟩ = some (.int .i64 (rd r (i : Int))) := by
 rw [blk_cell h i]
 simp [nums, rd, hi]
theorem fp_row.set {W : World} {g : Nat} {r : List Int} (h : fp_row W g r) (i : Nat) (v : Int) : fp_row (W.setCell ⟨g, i, none⟩ (.int .i64 v)) g (r.set i v) := by
 unfold fp_row
 rw [blk_set h i (.int .i64 v)]
 simp [nums, List.map_set]
theorem fp_row.own {W : World} {g base : Nat} {r : List Int} (h : fp_row W g r) (hb : base ≤ g) (hl : r.length ≤ 100000) : W.ownsRow base 3 1 (.slice (some ⟨g, 0, none⟩) r.length r.length) r.length (nums .i64 r) :=
 ⟨by simp [nums], .inr ⟨g, r.length, _, rfl, hb, h, Nat.le_refl _, by simp [maxLen]; omega, by simp [nums], List.take_of_length_le (by simp [nums])⟩⟩
theorem fp_row.R {W : World} {g base : Nat} {r : List Int} (ok : Nat → Prop) (h : fp_row W g r) (hb : base ≤ g) (hk : ok g) (hl : r.length ≤ 100000) : Kd.R (Kd.int .i64) 3 W base ok (.slice (some ⟨g, 0, none⟩) r.length r.length) r :=
 Kd.R_of_own (h.own hb hl) (fun k e => by have : g = k := Option.some.inj e; subst this; exact hk)
theorem fp_row.C {W : World} {g : Nat} {r : List Int} (h : fp_row W g r) (hl : r.length ≤ 100000) : Kd.C (Kd.int .i64) W (some ⟨g, 0, none⟩) r.length r :=
 (Kd.R_reads' (h.R (base := 0) (fun _ => True) (Nat.zero_le _) trivial hl)).2.2
theorem fp_row.of_own {W : World} {g base n : Nat} {r : List Int} (h : W.ownsRow base 3 1 (.slice (some ⟨g, 0, none⟩) n n) n (nums .i64 r)) : fp_row W g r := by
 rcases h.2 with ⟨e, _⟩ | ⟨g', cap, cur, e, _, hh, _, _, hs, ht⟩
 ·cases e
 ·injection e with e1 e2 e3
  injection e1 with e1
  injection e1 with e1
  subst e1 e3
  unfold fp_row
  rw [hh, ← ht, List.take_of_length_le (by simp; omega)]
theorem fp_row.far {W : World} {g : Nat} {r : List Int} (h : fp_row W g r) {p : Addr} (hp : g ≠ p.block) (u : Value) : fp_row (W.setCell p u) g r := blk_far h hp u
theorem fp_row.at {W W' : World} {g : Nat} {r : List Int} (h : fp_row W g r) (e : W'.heap[g]? = W.heap[g]?) : fp_row W' g r := e.trans h
/-! one row leads to the next one, as the code reckons it -/
def fp_new (x y d u l : Int) : Int := mn (mn (if x = y then d else wrap64 (d + 1)) (wrap64 (u + 1))) (wrap64 (l + 1))
def fp_nxt (x : Int) : List Int → Int → List Int → Int → List Int
 | y :: b, d, u :: us, l => fp_new x y d u l :: fp_nxt x b u us (fp_new x y d u l)
 | _, _, _, _ => []
def fp_next (x : Int) (b : List Int) : List Int → List Int
 | [] => []
 | d :: us => wrap64 (d + 1) :: fp_nxt x b d us (wrap64 (d + 1))
def fp_row0 (free : Bool) (n : Nat) : List Int := if free = true then List.replicate (n + 1) 0 else (List.range (n + 1)).map (fun k : Nat => (k : Int))
def fp_rowsF (b : List Int) : List Int → List Int → List (List Int)
 | _, [] => []
 | r, x :: a => fp_next x b r :: fp_rowsF b (fp_next x b r) a
def fp_rowsP (a b : List Int) (free : Bool) : List (List Int) := fp_row0 free b.length :: fp_rowsF b (fp_row0 free b.length) a
def fp_lastP (a b : List Int) (free : Bool) : List Int := a.foldl (fun r x => fp_next x b r) (fp_row0 free b.length)
theorem fp_nxt_length (x : Int) : ∀ (b : List Int) (d : Int) (us : List Int) (l : Int), us.length = b.length → (fp_nxt x b d us l).length = b.length
 | [], _, _, _, _ => by simp [fp_nxt]
 | y :: b, d, [], l, h => by simp at h
 | y :: b, d, u :: us, l, h => by simp only [fp_nxt, List.length_cons]; rw [fp_nxt_length x b u us _ (by simpa using h)]
theorem fp_next_length (x : Int) (b r : List Int) (h : r.length = b.length + 1) : (fp_next x b r).length = b.length + 1 := by
 cases r with
 | nil => simp at h
 | cons d us => simp only [fp_next, List.length_cons]; rw [fp_nxt_length x b d us _ (by simpa using h)]
theorem fp_row0_length (free : Bool) (n : Nat) : (fp_row0 free n).length = n + 1 := by unfold fp_row0; split <;> simp
theorem fp_nxt_get (x : Int) : ∀ (b : List Int) (d : Int) (us : List Int) (l : Int), us.length = b.length → ∀ k, k < b.length →
  (l :: fp_nxt x b d us l).getD (k + 1) 0 = fp_new x (b.getD k 0) ((d :: us).getD k 0) ((d :: us).getD (k + 1) 0) ((l :: fp_nxt x b d us l).getD k 0)
 | [], _, _, _, _, k, hk => by simp at hk
 | y :: b, d, [], l, h, _, _ => by simp at h
 | y :: b, d, u :: us, l, h, 0, _ => by simp [fp_nxt]
 | y :: b, d, u :: us, l, h, k + 1, hk => by
  have := fp_nxt_get x b u us (fp_new x y d u l) (by simpa using h) k (by simpa using hk)
  simp only [fp_nxt, List.getD_cons_succ] at this ⊢
  exact this
theorem fp_next_get (x : Int) (b r : List Int) (h : r.length = b.length + 1) (k : Nat) (hk : k < b.length) :
  rd (fp_next x b r) ((k + 1 : Nat) : Int) = fp_new x (rd b (k : Int)) (rd r (k : Int)) (rd r ((k + 1 : Nat) : Int)) (rd (fp_next x b r) (k : Int)) := by
 cases r with
 | nil => simp at h
 | cons d us =>
  have := fp_nxt_get x b d us (wrap64 (d + 1)) (by simpa using h) k hk
  simp only [rd, Int.toNat_natCast, fp_next]
  exact this
theorem fp_next_0 (x : Int) (b r : List Int) (h : r.length = b.length + 1) : rd (fp_next x b r) 0 = wrap64 (rd r 0 + 1) := by
 cases r with
 | nil => simp at h
 | cons d us => rfl
/-- the row when its first k + 1 numbers are the new one's -/
def fp_mix (new old : List Int) (k : Nat) : List Int := new.take k ++ old.drop k
theorem fp_mix_length {new old : List Int} (h : new.length = old.length) (k : Nat) : (fp_mix new old k).length = old.length := by
 unfold fp_mix; simp; omega
theorem fp_mix_get {new old : List Int} (h : new.length = old.length) {k i : Nat} (hi : i < k) (hk : k ≤ new.length) : rd (fp_mix new old k) (i : Int) = rd new (i : Int) := by
 unfold fp_mix rd
 simp only [Int.toNat_natCast, List.getD_eq_getElem?_getD]
 rw [List.getElem?_append_left (by simp; omega), List.getElem?_take_of_lt hi]
theorem fp_mix_set {new old : List Int} (h : new.length = old.length) {k : Nat} (hk : k < new.length) : (fp_mix new old k).set k (rd new (k : Int)) = fp_mix new old (k + 1) := by
 unfold fp_mix
 rw [List.set_append_right _ _ (by simp; omega)]
 rw [show k - (List.take k new).length = 0 by simp; omega, List.drop_eq_getElem_cons (by omega : k < old.length), List.set_cons_zero, List.take_succ_eq_append_getElem hk, show rd new (k : Int) = new[k] by simp [rd, hk]]
 simp only [List.append_assoc, List.cons_append, List.nil_append]
theorem fp_mix_0 (new old : List Int) : fp_mix new old 0 = old := by simp [fp_mix]
theorem fp_mix_all {new old : List Int} (h : new.length = old.length) : fp_mix new old new.length = new := by
 unfold fp_mix; rw [List.take_length, List.drop_eq_nil_of_le (by omega), List.append_nil]
theorem fp_fill_get (n k : Nat) (h : k < n + 1) : (fp_mix ((List.range (n + 1)).map (fun k : Nat => (k : Int))) (List.replicate (n + 1) 0) k).set k (k : Int) = fp_mix ((List.range (n + 1)).map (fun k : Nat => (k : Int))) (List.replicate (n + 1) 0) (k + 1) := by
 rw [← fp_mix_set (by simp) (by simpa using h)]
 simp [rd, h]
/-! what rows calls -/
structure fp_Each (K : Nat) (caps : Array Value) (m N g base : Nat) (J : (Nat → Prop) → List (List Int) → World → Prop) : Prop where
 enters : ∀ args w, (callFunc K args).run Try.prog w = .ok (.enter K args) w
 keep : ∀ X pre W W', J X pre W → Below base W W' → (∀ k, k < W.heap.size → ¬ X k → W'.heap[k]? = W.heap[k]?) → J X pre W'
 more : ∀ X pre W h, J X pre W → W.heap.size ≤ h → J (fun k => X k ∨ k = h) pre W
 call : ∀ X pre r W, J X pre W → (∀ k, X k → k < W.heap.size) → X g → fp_row W g r → r.length = m → pre.length < N → base ≤ W.heap.size →
  Calls Try.prog K (#[.slice (some ⟨g, 0, none⟩) m m] ++ caps) W fun e W' => e = .returned (.tuple #[]) ∧ J X (pre ++ [r]) W' ∧ Below base W W' ∧ (∀ k, X k → W'.heap[k]? = W.heap[k]?)
def fp_fill (free : Bool) (m k : Nat) : List Int := if free = true then List.replicate m 0 else fp_mix ((List.range m).map (fun k : Nat => (k : Int))) (List.replicate m 0) k
theorem fp_fill_length (free : Bool) (m k : Nat) : (fp_fill free m k).length = m := by
 unfold fp_fill; split
 ·simp
 ·rw [fp_mix_length (by simp)]; simp
theorem fp_fill_0 (free : Bool) (m : Nat) : fp_fill free m 0 = List.replicate m 0 := by unfold fp_fill; split <;> simp [fp_mix]
theorem fp_fill_all (free : Bool) (n : Nat) : fp_fill free (n + 1) (n + 1) = fp_row0 free n := by
 unfold fp_fill fp_row0; split
 ·rfl
 ·have := fp_mix_all (new := (List.range (n + 1)).map (fun k : Nat => (k : Int))) (old := List.replicate (n + 1) 0) (by simp)
  simpa using this
theorem fp_fill_no {m k : Nat} (h : k < m) : (fp_fill false m k).set k (k : Int) = fp_fill false m (k + 1) := by
 obtain ⟨n, rfl⟩ : ∃ n, m = n + 1 := ⟨m - 1, by omega⟩
 exact fp_fill_get n k h
def fp_rowI (a b : List Int) (free : Bool) (i : Nat) : List Int := fp_lastP (a.take i) b free
def fp_preI (a b : List Int) (free : Bool) (i : Nat) : List (List Int) := fp_rowsP (a.take i) b free
theorem fp_take_snoc {a : List Int} {i : Nat} (h : i < a.length) : a.take (i + 1) = a.take i ++ [rd a (i : Int)] := by
 rw [List.take_succ_eq_append_getElem h]; simp [rd, h]
theorem fp_rowI_succ {a : List Int} (b : List Int) (free : Bool) {i : Nat} (h : i < a.length) : fp_rowI a b free (i + 1) = fp_next (rd a (i : Int)) b (fp_rowI a b free i) := by
 unfold fp_rowI fp_lastP; rw [fp_take_snoc h, List.foldl_append]; rfl
theorem fp_rowsF_append (b : List Int) : ∀ (a c : List Int) (r : List Int), fp_rowsF b r (a ++ c) = fp_rowsF b r a ++ fp_rowsF b (a.foldl (fun r x => fp_next x b r) r) c
 | [], c, r => rfl
 | x :: a, c, r => by simp only [List.cons_append, fp_rowsF, List.foldl_cons]; rw [fp_rowsF_append b a c]
theorem fp_preI_succ {a : List Int} (b : List Int) (free : Bool) {i : Nat} (h : i < a.length) : fp_preI a b free (i + 1) = fp_preI a b free i ++ [fp_rowI a b free (i + 1)] := by
 rw [fp_rowI_succ b free h]
 unfold fp_preI fp_rowsP fp_rowI fp_lastP
 rw [fp_take_snoc h, fp_rowsF_append]
 rfl
theorem fp_rowsF_length (b : List Int) : ∀ (a r : List Int), (fp_rowsF b r a).length = a.length
 | [], r => rfl
 | x :: a, r => by simp [fp_rowsF, fp_rowsF_length b a]
theorem fp_preI_length (a b : List Int) (free : Bool) {i : Nat} (h : i ≤ a.length) : (fp_preI a b free i).length = i + 1 := by
 unfold fp_preI fp_rowsP; simp [fp_rowsF_length]; omega
theorem fp_lastP_length (b : List Int) (free : Bool) (a : List Int) : (fp_lastP a b free).length = b.length + 1 := by
 unfold fp_lastP
 generalize hr : fp_row0 free b.length = r
 have h : r.length = b.length + 1 := by rw [← hr, fp_row0_length]
 clear hr
 induction a generalizing r with
 | nil => exact h
 | cons x a ih => exact ih _ (fp_next_length x b r h)
theorem fp_rowI_length (a b : List Int) (free : Bool) (i : Nat) : (fp_rowI a b free i).length = b.length + 1 := fp_lastP_length b free _
theorem fp_all {a b : List Int} {free : Bool} : fp_rowI a b free a.length = fp_lastP a b free ∧ fp_preI a b free a.length = fp_rowsP a b free := by
 unfold fp_rowI fp_preI; rw [List.take_length]; exact ⟨rfl, rfl⟩
theorem fp_copied {m : Nat} {r old : List Int} (h : r.length = m) (h' : old.length = m) : r.take (min m old.length) ++ old.drop (min m old.length) = r := by
 rw [h', Nat.min_self, List.take_of_length_le (by omega), List.drop_eq_nil_of_le (by omega), List.append_nil]
theorem fp_row.Rn {W : World} {g base n : Nat} {r : List Int} (ok : Nat → Prop) (h : fp_row W g r) (hn : r.length = n) (hb : base ≤ g) (hk : ok g) (hl : n ≤ 100000) : Kd.R (Kd.int .i64) 3 W base ok (.slice (some ⟨g, 0, none⟩) n n) r := by
 subst hn; exact h.R ok hb hk hl
theorem fp_row.Cn {W : World} {g n : Nat} {r : List Int} (h : fp_row W g r) (hn : r.length = n) (hl : n ≤ 100000) : Kd.C (Kd.int .i64) W (some ⟨g, 0, none⟩) n r := by
 subst hn; exact h.C hl
theorem fp_row.of_R {W : World} {g base n : Nat} {ok : Nat → Prop} {r : List Int} (h : Kd.R (Kd.int .i64) 3 W base ok (.slice (some ⟨g, 0, none⟩) n n) r) (hn : r.length = n) : fp_row W g r := by
 subst hn; exact fp_row.of_own (Kd.own_of_R h)
theorem fp_first {x : Int} {b r : List Int} (h : r.length = b.length + 1) : r.set 0 (wrap64 (rd r 0 + 1)) = fp_mix (fp_next x b r) r 1 := by
 have hl := fp_next_length x b r h
 have := fp_mix_set (new := fp_next x b r) (old := r) (by omega) (k := 0) (by omega)
 rw [fp_mix_0] at this
 rw [← this]
 congr 1
 rw [← fp_next_0 x b r h]
 rfl
theorem fp_step {x : Int} {b r : List Int} (h : r.length = b.length + 1) {j : Nat} (hj : j < b.length) :
  (fp_mix (fp_next x b r) r (j + 1)).set (j + 1) (fp_new x (rd b (j : Int)) (rd r (j : Int)) (rd r ((j + 1 : Nat) : Int)) (rd (fp_next x b r) (j : Int))) = fp_mix (fp_next x b r) r (j + 2) := by
 have hl := fp_next_length x b r h
 rw [← fp_next_get x b r h j hj]
 exact fp_mix_set (by omega) (by omega)
theorem fp_mix_rd {x : Int} {b r : List Int} (h : r.length = b.length + 1) {j : Nat} (hj : j ≤ b.length) : rd (fp_mix (fp_next x b r) r (j + 1)) (j : Int) = rd (fp_next x b r) (j : Int) := by
 have hl := fp_next_length x b r h
 exact fp_mix_get (by omega) (by omega) (by omega)
theorem fp_mix_len {x : Int} {b r : List Int} (h : r.length = b.length + 1) (j : Nat) : (fp_mix (fp_next x b r) r j).length = b.length + 1 := by
 rw [fp_mix_length (by rw [fp_next_length x b r h, h]), h]
theorem fp_mix_end {x : Int} {b r : List Int} (h : r.length = b.length + 1) : fp_mix (fp_next x b r) r (b.length + 1) = fp_next x b r := by
 have hl := fp_next_length x b r h
 have := fp_mix_all (new := fp_next x b r) (old := r) (by omega)
 rwa [hl] at this
theorem info3s : (Try.prog.info? 3).map (·.size) = some 1 := by kernel_rfl

end Go.Proofs.Ytgaepndbfpfniaa.PFR
