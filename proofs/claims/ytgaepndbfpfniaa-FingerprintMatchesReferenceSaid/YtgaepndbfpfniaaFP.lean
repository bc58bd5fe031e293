/- The plain theory of fingerprints; no condition. -/
import Derived.Test.YtgaepndbfpfniaaPFRx1
import Derived.Test.YtgaepndbfpfniaaPFRx11
import Derived.Test.YtgaepndbfpfniaaPFRx12
import Derived.Test.YtgaepndbfpfniaaPFRx13
import Derived.Test.YtgaepndbfpfniaaPFRx14
import Derived.Test.YtgaepndbfpfniaaPFRx17
import Derived.Test.YtgaepndbfpfniaaPFRx37
import Derived.Test.YtgaepndbfpfniaaPFRx2
import Derived.Test.YtgaepndbfpfniaaPFRx20
import Derived.Test.YtgaepndbfpfniaaPFRx22
import Derived.Test.YtgaepndbfpfniaaPFRx3
import Derived.Test.YtgaepndbfpfniaaPFRx31
import Derived.Test.YtgaepndbfpfniaaPFRx4
import Derived.Test.YtgaepndbfpfniaaPFRx6
import Derived.Test.YtgaepndbfpfniaaPFRx7
import Derived.Test.YtgaepndbfpfniaaPFRx8
import Derived.Test.YtgaepndbfpfniaaPFRx9
import Derived.OpenShut
namespace Go.Proofs.Ytgaepndbfpfniaa.PFR
open Go.RowKit Go.Proofs.YtgaepndbfpfniaaW.PrintWords Go.Proofs.YtgaepndbfpfniaaW.PrintLast Go.Proofs.YtgaepndbfpfniaaW.PrintMore
/-! The theory of the edit distance: no program in sight. -/
inductive Ed : List Int → List Int → Nat → Prop
  | nil : Ed [] [] 0
  | keep (x : Int) {a b : List Int} {n : Nat} : Ed a b n → Ed (x :: a) (x :: b) n
  | other (x y : Int) {a b : List Int} {n : Nat} : Ed a b n → Ed (x :: a) (y :: b) (n + 1)
  | extra (x : Int) {a b : List Int} {n : Nat} : Ed a b n → Ed (x :: a) b (n + 1)
  | lost (y : Int) {a b : List Int} {n : Nat} : Ed a b n → Ed a (y :: b) (n + 1)
theorem Ed.symm {a b : List Int} {n : Nat} (h : Ed a b n) : Ed b a n := by
  induction h with
  | nil => exact .nil
  | keep x _ ih => exact .keep x ih
  | other x y _ ih => exact .other y x ih
  | extra x _ ih => exact .lost x ih
  | lost y _ ih => exact .extra y ih
theorem Ed.append {a b c d : List Int} {n m : Nat} (h : Ed a b n) (h' : Ed c d m) : Ed (a ++ c) (b ++ d) (n + m) := by
  induction h with
  | nil => simpa using h'
  | keep x _ ih => exact .keep x ih
  | other x y _ ih => rw [Nat.add_right_comm]; exact .other x y ih
  | extra x _ ih => rw [Nat.add_right_comm]; exact .extra x ih
  | lost y _ ih => rw [Nat.add_right_comm]; exact .lost y ih
theorem Ed.reverse {a b : List Int} {n : Nat} (h : Ed a b n) : Ed a.reverse b.reverse n := by
  induction h with
  | nil => exact .nil
  | keep x _ ih => simpa using ih.append (Ed.keep x .nil)
  | other x y _ ih => simpa using ih.append (Ed.other x y .nil)
  | extra x _ ih => simpa using ih.append (Ed.extra x .nil)
  | lost y _ ih => simpa using ih.append (Ed.lost y .nil)
theorem Ed.refl : ∀ a : List Int, Ed a a 0
  | [] => .nil
  | x :: a => .keep x (Ed.refl a)
theorem Ed.dels : ∀ a : List Int, Ed a [] a.length
  | [] => .nil
  | x :: a => .extra x (Ed.dels a)
theorem Ed.zero {a b : List Int} {n : Nat} (h : Ed a b n) (hn : n = 0) : a = b := by
  induction h with
  | nil => rfl
  | keep x _ ih => rw [ih hn]
  | other x y _ _ => omega
  | extra x _ _ => omega
  | lost y _ _ => omega
theorem Ed.trans {a b : List Int} {n : Nat} (h : Ed a b n) : ∀ {c : List Int} {m : Nat}, Ed b c m → ∃ k, k ≤ n + m ∧ Ed a c k := by
  induction h with
  | nil => intro c m h; exact ⟨m, by omega, h⟩
  | @keep x a b n _ ih =>
    intro c m h
    generalize hb : x :: b = bb at h
    induction h with
    | nil => cases hb
    | keep y h2 _ => cases hb; obtain ⟨k, hk, h3⟩ := ih h2; exact ⟨k, hk, .keep x h3⟩
    | other y z h2 _ => cases hb; obtain ⟨k, hk, h3⟩ := ih h2; exact ⟨k + 1, by omega, .other x z h3⟩
    | extra y h2 _ => cases hb; obtain ⟨k, hk, h3⟩ := ih h2; exact ⟨k + 1, by omega, .extra x h3⟩
    | lost y h2 ih2 => obtain ⟨k, hk, h3⟩ := ih2 hb; exact ⟨k + 1, by omega, .lost y h3⟩
  | @other x y a b n _ ih =>
    intro c m h
    generalize hb : y :: b = bb at h
    induction h with
    | nil => cases hb
    | keep z h2 _ => cases hb; obtain ⟨k, hk, h3⟩ := ih h2; exact ⟨k + 1, by omega, .other x y h3⟩
    | other z u h2 _ => cases hb; obtain ⟨k, hk, h3⟩ := ih h2; exact ⟨k + 1, by omega, .other x u h3⟩
    | extra z h2 _ => cases hb; obtain ⟨k, hk, h3⟩ := ih h2; exact ⟨k + 1, by omega, .extra x h3⟩
    | lost z h2 ih2 => obtain ⟨k, hk, h3⟩ := ih2 hb; exact ⟨k + 1, by omega, .lost z h3⟩
  | @extra x a b n _ ih =>
    intro c m h
    obtain ⟨k, hk, h3⟩ := ih h
    exact ⟨k + 1, by omega, .extra x h3⟩
  | @lost y a b n _ ih =>
    intro c m h
    generalize hb : y :: b = bb at h
    induction h with
    | nil => cases hb
    | keep z h2 _ => cases hb; obtain ⟨k, hk, h3⟩ := ih h2; exact ⟨k + 1, by omega, .lost y h3⟩
    | other z u h2 _ => cases hb; obtain ⟨k, hk, h3⟩ := ih h2; exact ⟨k + 1, by omega, .lost u h3⟩
    | extra z h2 _ => cases hb; obtain ⟨k, hk, h3⟩ := ih h2; exact ⟨k, by omega, h3⟩
    | lost z h2 ih2 => obtain ⟨k, hk, h3⟩ := ih2 hb; exact ⟨k + 1, by omega, .lost z h3⟩
def ne01 (x y : Int) : Nat := if x = y then 0 else 1
def lev : List Int → List Int → Nat
  | [], b => b.length
  | x :: a, [] => a.length + 1
  | x :: a, y :: b => min (lev a b + ne01 x y) (min (lev a (y :: b) + 1) (lev (x :: a) b + 1))
termination_by a b => a.length + b.length
theorem lev_nil (b : List Int) : lev [] b = b.length := by cases b <;> simp [lev]
theorem lev_nil' (a : List Int) : lev a [] = a.length := by cases a <;> simp [lev]
theorem lev_cons (x y : Int) (a b : List Int) : lev (x :: a) (y :: b) = min (lev a b + ne01 x y) (min (lev a (y :: b) + 1) (lev (x :: a) b + 1)) := by
  rw [lev]
theorem lev_extra (x : Int) (a b : List Int) : lev (x :: a) b ≤ lev a b + 1 := by
  cases b with
  | nil => simp [lev_nil']
  | cons y b => rw [lev_cons]; omega
theorem lev_lost (y : Int) (a b : List Int) : lev a (y :: b) ≤ lev a b + 1 := by
  cases a with
  | nil => simp [lev_nil]
  | cons x a => rw [lev_cons]; omega
theorem lev_both (x y : Int) (a b : List Int) : lev (x :: a) (y :: b) ≤ lev a b + ne01 x y := by
  rw [lev_cons]; omega
theorem lev_le {a b : List Int} {n : Nat} (h : Ed a b n) : lev a b ≤ n := by
  induction h with
  | nil => simp [lev_nil]
  | @keep x a b n _ ih => have := lev_both x x a b; simp [ne01] at this; omega
  | @other x y a b n _ ih =>
    have := lev_both x y a b
    have h2 : ne01 x y ≤ 1 := by unfold ne01; split <;> omega
    omega
  | @extra x a b n _ ih => have := lev_extra x a b; omega
  | @lost y a b n _ ih => have := lev_lost y a b; omega
theorem lev_ed : ∀ a b : List Int, Ed a b (lev a b)
  | [], b => by rw [lev_nil]; exact (Ed.dels b).symm
  | x :: a, [] => by rw [lev_nil']; exact Ed.dels _
  | x :: a, y :: b => by
    have h1 := lev_ed a b
    have h2 := lev_ed a (y :: b)
    have h3 := lev_ed (x :: a) b
    rw [lev_cons]
    by_cases c : lev a b + ne01 x y ≤ min (lev a (y :: b) + 1) (lev (x :: a) b + 1)
    · rw [Nat.min_eq_left c]
      unfold ne01
      split
      · rename_i e; subst e; exact .keep x h1
      · exact .other x y h1
    · rw [Nat.min_eq_right (by omega)]
      by_cases d : lev a (y :: b) + 1 ≤ lev (x :: a) b + 1
      · rw [Nat.min_eq_left d]; exact .extra x h2
      · rw [Nat.min_eq_right (by omega)]; exact .lost y h3
termination_by a b => a.length + b.length
theorem lev_rev (a b : List Int) : lev a.reverse b.reverse = lev a b := by
  have h1 := lev_le (lev_ed a b).reverse
  have h2 := lev_le (lev_ed a.reverse b.reverse).reverse
  simp only [List.reverse_reverse] at h2
  omega
/-- the least distance of A and a beginning of B -/
def fr : List Int → List Int → Nat
  | [], _ => 0
  | _ :: a, [] => a.length + 1
  | x :: a, y :: b => min (fr a b + ne01 x y) (min (fr a (y :: b) + 1) (fr (x :: a) b + 1))
termination_by a b => a.length + b.length
theorem fr_nil (b : List Int) : fr [] b = 0 := by cases b <;> simp [fr]
theorem fr_nil' (a : List Int) : fr a [] = a.length := by cases a <;> simp [fr]
theorem fr_cons (x y : Int) (a b : List Int) : fr (x :: a) (y :: b) = min (fr a b + ne01 x y) (min (fr a (y :: b) + 1) (fr (x :: a) b + 1)) := by
  rw [fr]
theorem fr_extra (x : Int) (a b : List Int) : fr (x :: a) b ≤ fr a b + 1 := by
  cases b with
  | nil => simp [fr_nil']
  | cons y b => rw [fr_cons]; omega
theorem fr_lost (y : Int) (a b : List Int) : fr a (y :: b) ≤ fr a b + 1 := by
  cases a with
  | nil => simp [fr_nil]
  | cons x a => rw [fr_cons]; omega
theorem fr_both (x y : Int) (a b : List Int) : fr (x :: a) (y :: b) ≤ fr a b + ne01 x y := by
  rw [fr_cons]; omega
theorem fr_le {a b : List Int} {n : Nat} (h : Ed a b n) : ∀ c, fr a (b ++ c) ≤ n := by
  induction h with
  | nil => intro c; simp [fr_nil]
  | @keep x a b n _ ih => intro c; have := fr_both x x a (b ++ c); have := ih c; simp [ne01] at *; omega
  | @other x y a b n _ ih =>
    intro c
    have := fr_both x y a (b ++ c)
    have h2 : ne01 x y ≤ 1 := by unfold ne01; split <;> omega
    have := ih c
    simp only [List.cons_append]
    omega
  | @extra x a b n _ ih => intro c; have := fr_extra x a (b ++ c); have := ih c; omega
  | @lost y a b n _ ih => intro c; have := fr_lost y a (b ++ c); have := ih c; simp only [List.cons_append]; omega
theorem fr_ed : ∀ a b : List Int, ∃ p q, b = p ++ q ∧ Ed a p (fr a b)
  | [], b => ⟨[], b, rfl, by rw [fr_nil]; exact .nil⟩
  | x :: a, [] => ⟨[], [], rfl, by rw [fr_nil']; exact Ed.dels _⟩
  | x :: a, y :: b => by
    obtain ⟨p1, q1, e1, h1⟩ := fr_ed a b
    obtain ⟨p2, q2, e2, h2⟩ := fr_ed a (y :: b)
    obtain ⟨p3, q3, e3, h3⟩ := fr_ed (x :: a) b
    rw [fr_cons]
    by_cases c : fr a b + ne01 x y ≤ min (fr a (y :: b) + 1) (fr (x :: a) b + 1)
    · rw [Nat.min_eq_left c]
      refine ⟨y :: p1, q1, by rw [e1]; rfl, ?_⟩
      unfold ne01
      split
      · rename_i e; subst e; exact .keep x h1
      · exact .other x y h1
    · rw [Nat.min_eq_right (by omega)]
      by_cases d : fr a (y :: b) + 1 ≤ fr (x :: a) b + 1
      · rw [Nat.min_eq_left d]
        exact ⟨p2, q2, e2, .extra x h2⟩
      · rw [Nat.min_eq_right (by omega)]
        exact ⟨y :: p3, q3, by rw [e3]; rfl, .lost y h3⟩
termination_by a b => a.length + b.length
/-- a row of a table: D of A and each beginning of b, turned -/
def rowG (D : List Int → List Int → Nat) (A : List Int) : List Int → List Int → List Int
  | acc, [] => [(D A acc : Int)]
  | acc, y :: b => (D A acc : Int) :: rowG D A (y :: acc) b
theorem rowG_length (D : List Int → List Int → Nat) (A : List Int) : ∀ (b acc : List Int), (rowG D A acc b).length = b.length + 1
  | [], acc => rfl
  | y :: b, acc => by simp [rowG, rowG_length D A b]
theorem rowG_get (D : List Int → List Int → Nat) (A : List Int) : ∀ (b acc : List Int) (k : Nat), k ≤ b.length → (rowG D A acc b)[k]? = some (D A ((b.take k).reverse ++ acc) : Int)
  | [], acc, k, h => by
    obtain rfl : k = 0 := (by simpa using h)
    simp [rowG]
  | y :: b, acc, 0, h => by simp [rowG]
  | y :: b, acc, k + 1, h => by
    simp only [rowG, List.getElem?_cons_succ]
    rw [rowG_get D A b (y :: acc) k (by simpa using h)]
    simp
/-- what one row leads to the next one -/
def nxt (x : Int) : List Int → Int → List Int → Int → List Int
  | y :: b, d, u :: us, l => (min (min (d + (if x = y then 0 else 1)) (u + 1)) (l + 1)) :: nxt x b u us (min (min (d + (if x = y then 0 else 1)) (u + 1)) (l + 1))
  | _, _, _, _ => []
def nextRow (x : Int) (b : List Int) : List Int → List Int
  | [] => []
  | d :: us => (d + 1) :: nxt x b d us (d + 1)
structure Tab (D : List Int → List Int → Nat) : Prop where
  nil : ∀ A, D A [] = A.length
  cons : ∀ x y A B, D (x :: A) (y :: B) = min (D A B + ne01 x y) (min (D A (y :: B) + 1) (D (x :: A) B + 1))
theorem lev_tab : Tab lev := ⟨lev_nil', lev_cons⟩
theorem fr_tab : Tab fr := ⟨fr_nil', fr_cons⟩
theorem nxt_row {D : List Int → List Int → Nat} (hD : Tab D) (x : Int) (A : List Int) : ∀ (b acc : List Int),
    nxt x b (D A acc) (rowG D A acc b).tail (D (x :: A) acc) = (rowG D (x :: A) acc b).tail
  | [], acc => by simp [rowG, nxt]
  | y :: b, acc => by
    have ih := nxt_row hD x A b (y :: acc)
    have hd : ∀ A', ∃ t, rowG D A' (y :: acc) b = (D A' (y :: acc) : Int) :: t := fun A' => by cases b <;> exact ⟨_, rfl⟩
    obtain ⟨t, ht⟩ := hd A
    obtain ⟨t', ht'⟩ := hd (x :: A)
    have hv : min (min ((D A acc : Int) + (if x = y then 0 else 1)) ((D A (y :: acc) : Int) + 1)) ((D (x :: A) acc : Int) + 1) = (D (x :: A) (y :: acc) : Int) := by
      rw [hD.cons]
      unfold ne01
      split <;> omega
    rw [ht, ht'] at ih
    simp only [rowG, List.tail_cons] at ih ⊢
    rw [ht, ht']
    simp only [nxt]
    rw [hv, ih]
theorem nextRow_row {D : List Int → List Int → Nat} (hD : Tab D) (x : Int) (A b : List Int) : nextRow x b (rowG D A [] b) = rowG D (x :: A) [] b := by
  have h := nxt_row hD x A b []
  have hd : ∀ A', ∃ t, rowG D A' [] b = (D A' [] : Int) :: t := fun A' => by cases b <;> exact ⟨_, rfl⟩
  obtain ⟨t, ht⟩ := hd A
  obtain ⟨t', ht'⟩ := hd (x :: A)
  have e : (D (x :: A) [] : Int) = (D A [] : Int) + 1 := by rw [hD.nil, hD.nil]; simp
  rw [ht, ht'] at h
  simp only [List.tail_cons] at h
  rw [ht, ht', nextRow, ← e, h]
theorem foldl_row {D : List Int → List Int → Nat} (hD : Tab D) (b : List Int) : ∀ (a A : List Int), a.foldl (fun r x => nextRow x b r) (rowG D A [] b) = rowG D (a.reverse ++ A) [] b
  | [], A => rfl
  | x :: a, A => by
    rw [List.foldl_cons, nextRow_row hD, foldl_row hD b a (x :: A)]
    simp
/-! What the code's rows are: rows of a table of distances. -/
theorem wrap_id {x : Int} (h1 : -9223372036854775808 ≤ x) (h2 : x ≤ 9223372036854775807) : wrap64 x = x := by
  unfold wrap64; omega
def rdOk (M : Int) (l : List Int) : Prop := ∀ x ∈ l, 0 ≤ x ∧ x ≤ M
theorem fp_nxt_eq (x : Int) {M : Int} (hM : M ≤ 1000000) : ∀ (b : List Int) (d : Int) (us : List Int) (l : Int), (0 ≤ d ∧ d ≤ M) → rdOk M us → (0 ≤ l ∧ l ≤ M + 1) →
    fp_nxt x b d us l = nxt x b d us l ∧ rdOk (M + 1) (fp_nxt x b d us l)
  | [], _, us, _, _, _, _ => by simp [fp_nxt, nxt, rdOk]
  | y :: b, d, [], l, _, _, _ => by simp [fp_nxt, nxt, rdOk]
  | y :: b, d, u :: us, l, hd, hu, hl => by
    have h1 := hu u (by simp)
    have e : fp_new x y d u l = min (min (d + (if x = y then 0 else 1)) (u + 1)) (l + 1) := by
      unfold fp_new mn
      rw [wrap_id (x := d + 1) (by omega) (by omega), wrap_id (x := u + 1) (by omega) (by omega), wrap_id (x := l + 1) (by omega) (by omega)]
      split <;> split <;> split <;> omega
    have h2 : 0 ≤ fp_new x y d u l ∧ fp_new x y d u l ≤ M + 1 := by
      rw [e]; split <;> omega
    obtain ⟨h3, h4⟩ := fp_nxt_eq x hM b u us (fp_new x y d u l) h1 (fun z hz => hu z (by simp [hz])) h2
    refine ⟨by rw [fp_nxt, nxt, h3, e], fun z hz => ?_⟩
    rw [fp_nxt, List.mem_cons] at hz
    rcases hz with rfl | hz
    · exact h2
    · exact h4 z hz
theorem fp_next_eq (x : Int) {M : Int} (hM : M ≤ 1000000) (b r : List Int) (hr : rdOk M r) : fp_next x b r = nextRow x b r ∧ rdOk (M + 1) (fp_next x b r) := by
  cases r with
  | nil => simp [fp_next, nextRow, rdOk]
  | cons d us =>
    have hd := hr d (by simp)
    rw [fp_next, nextRow, wrap_id (x := d + 1) (by omega) (by omega)]
    obtain ⟨h1, h2⟩ := fp_nxt_eq x hM b d us (d + 1) hd (fun z hz => hr z (by simp [hz])) (by omega)
    refine ⟨by rw [h1], fun z hz => ?_⟩
    rw [List.mem_cons] at hz
    rcases hz with rfl | hz
    · omega
    · exact h2 z hz
theorem fp_fold_eq (b : List Int) : ∀ (a : List Int) (M : Int) (r : List Int), M + a.length ≤ 1000000 → rdOk M r →
    a.foldl (fun r x => fp_next x b r) r = a.foldl (fun r x => nextRow x b r) r ∧ rdOk (M + a.length) (a.foldl (fun r x => fp_next x b r) r)
  | [], M, r, _, hr => by simpa using hr
  | x :: a, M, r, hM, hr => by
    simp only [List.length_cons] at hM
    obtain ⟨h1, h2⟩ := fp_next_eq x (M := M) (by omega) b r hr
    obtain ⟨h3, h4⟩ := fp_fold_eq b a (M + 1) (fp_next x b r) (by omega) h2
    simp only [List.foldl_cons, List.length_cons]
    refine ⟨by rw [h3, h1], fun z hz => ?_⟩
    have := h4 z hz
    omega
theorem rowG_zero (b : List Int) : ∀ acc, rowG fr [] acc b = List.replicate (b.length + 1) 0 := by
  induction b with
  | nil => intro acc; simp [rowG, fr_nil]
  | cons y b ih => intro acc; simp [rowG, fr_nil, ih, List.replicate_succ]
theorem rowG_count (b : List Int) : ∀ acc, rowG lev [] acc b = (List.range (b.length + 1)).map (fun k : Nat => ((acc.length + k : Nat) : Int)) := by
  induction b with
  | nil => intro acc; simp [rowG, lev_nil]
  | cons y b ih =>
    intro acc
    rw [rowG, ih, lev_nil, List.length_cons, List.length_cons, List.range_succ_eq_map (n := b.length + 1), List.map_cons, List.map_map]
    simp only [Nat.add_zero]
    congr 1
    apply List.map_congr_left
    intro k _
    simp only [Function.comp_apply, Nat.succ_eq_add_one]
    omega
def tabD (free : Bool) : List Int → List Int → Nat := if free = true then fr else lev
theorem tabD_tab (free : Bool) : Tab (tabD free) := by cases free; exact lev_tab; exact fr_tab
theorem fp_row0_eq (free : Bool) (b : List Int) : fp_row0 free b.length = rowG (tabD free) [] [] b := by
  cases free with
  | false => rw [fp_row0, if_neg (by simp), tabD, if_neg (by simp), rowG_count]; simp
  | true => rw [fp_row0, if_pos rfl, tabD, if_pos rfl, rowG_zero]
theorem fp_row0_ok (free : Bool) (n : Nat) : rdOk n (fp_row0 free n) := by
  intro x hx
  unfold fp_row0 at hx
  split at hx
  · have := (List.mem_replicate.1 hx).2; omega
  · obtain ⟨k, hk, rfl⟩ := List.mem_map.1 hx
    have := List.mem_range.1 hk
    omega
theorem lastP_eq (a b : List Int) (free : Bool) (ha : a.length ≤ 1000) (hb : b.length ≤ 1000) : fp_lastP a b free = rowG (tabD free) a.reverse [] b := by
  unfold fp_lastP
  rw [(fp_fold_eq b a b.length _ (by omega) (fp_row0_ok free _)).1, fp_row0_eq, foldl_row (tabD_tab free)]
  simp
theorem rowG_rd (D : List Int → List Int → Nat) (A b : List Int) {k : Nat} (h : k ≤ b.length) : rd (rowG D A [] b) (k : Int) = (D A (b.take k).reverse : Int) := by
  have := rowG_get D A b [] k h
  unfold rd
  rw [Int.toNat_natCast, List.getD_eq_getElem?_getD, this]
  simp
/-! heard codes -/
def Hd (l : List Int) : Prop := l.length ≤ 60 ∧ ∀ x ∈ l, -1 ≤ x ∧ x ≤ 255
def Pr (l : List Int) : Prop := 1 ≤ l.length ∧ l.length ≤ 60 ∧ ∀ x ∈ l, 0 ≤ x ∧ x ≤ 255
theorem Pr.hd {l : List Int} (h : Pr l) : Hd l := ⟨h.2.1, fun x hx => by have := h.2.2 x hx; omega⟩
theorem codesB_of {low : Int} {l : List Int} (h : ∀ x ∈ l, low ≤ x ∧ x ≤ 255) : fp_codesB low l = true := by
  unfold fp_codesB
  rw [Bool.not_eq_true', List.any_eq_false]
  intro x hx
  have := h x hx
  simp [fp_badB]
  omega
theorem heard_f {l : List Int} (h : Hd l) : fingerprint_Heard.f l = some true := by
  unfold fingerprint_Heard.f
  rw [codesB_of h.2, decide_eq_true (by have := h.1; omega)]
  rfl
theorem isPrint_f {l : List Int} (h : Pr l) : fingerprint_isPrint.f l = some true := by
  unfold fingerprint_isPrint.f
  rw [codesB_of h.2.2, decide_eq_true (by have := h.1; omega), decide_eq_true (by have := h.2.1; omega)]
  rfl
theorem last_f {a b : List Int} (ha : a.length ≤ 60) (hb : b.length ≤ 60) (free : Bool) : fingerprint_last.f a b free = some (rowG (tabD free) a.reverse [] b) := by
  unfold fingerprint_last.f
  rw [if_pos (by omega), if_pos (by omega), lastP_eq a b free (by omega) (by omega)]
theorem dist_f {a b : List Int} (ha : Hd a) (hb : Hd b) : fingerprint_Distance.f a b = some ((lev a b : Int), 0) := by
  unfold fingerprint_Distance.f
  rw [heard_f ha, heard_f hb]
  simp only [Option.bind_some, if_true]
  rw [last_f ha.1 hb.1, Option.bind_some, if_pos (by omega), if_pos (by rw [rowG_length]; omega), rowG_rd _ _ _ (Nat.le_refl _)]
  rw [List.take_length]
  show some ((lev a.reverse b.reverse : Int), (0 : Int)) = _
  rw [lev_rev]
/-! the laws' inputs -/
def pickP (a n : Int) : Int := if a < 0 then (-(a + 1)) % n else a % n
theorem pickP_in {a n : Int} (hn : 0 < n) : 0 ≤ pickP a n ∧ pickP a n < n := by
  unfold pickP
  split
  · exact ⟨Int.emod_nonneg _ (by omega), Int.emod_lt_of_pos _ hn⟩
  · exact ⟨Int.emod_nonneg _ (by omega), Int.emod_lt_of_pos _ hn⟩
def I64 (a : Int) : Prop := -9223372036854775808 ≤ a ∧ a ≤ 9223372036854775807
theorem I64.of {a : Int} (h : (Lit.int .i64 a).wf = true) : I64 a := bounds_i64 h
theorem rpick_f {a n : Int} (ha : I64 a) (hn : 0 < n) : aircheckref36_pick.f a n = some (pickP a n) := by
  unfold aircheckref36_pick.f pickP
  obtain ⟨h1, h2⟩ := ha
  by_cases h : a < 0
  · rw [if_pos h, if_pos h, if_neg (by omega), wrap_id (x := a + 1) (by omega) (by omega), wrap_id (by omega) (by omega), Int.tmod_eq_emod_of_nonneg (by omega)]
  · rw [if_neg h, if_neg h, if_neg (by omega), Int.tmod_eq_emod_of_nonneg (by omega)]
theorem pick_f {a n : Int} (ha : I64 a) (hn : 0 < n) : airchecklaw36_pick.f a n = some (pickP a n) := rpick_f ha hn
theorem rd_get {l : List Int} {i : Nat} (h : i < l.length) : rd l (i : Int) = l[i] := by simp [rd, h]
theorem wrap_up {l : List Int} {i : Nat} (h : i < l.length) (hl : l.length ≤ 9223372036854775806) : wrap64 ((i : Int) + 1) = ((i + 1 : Nat) : Int) := by
  rw [wrap_id (by omega) (by omega)]; omega
def codes2P (l : List Int) : List Int := (l.take 12).map (fun x => pickP x 7 - 1)
theorem codes2_l0 (l : List Int) (hl : l.length ≤ 9223372036854775806) (hw : ∀ x ∈ l, I64 x) (d : Nat) : ∀ (k i : Nat) (out : List Int), i ≤ 12 → i ≤ l.length → 12 - i = d → d + 1 ≤ k → out.length ≤ i →
    aircheckref36_Codes2.l0 k l out (i : Int) = some (out ++ ((l.take 12).drop i).map (fun x => pickP x 7 - 1)) := by
  induction d with
  | zero =>
    intro k i out h1 h2 hd hk ho
    obtain ⟨k, rfl⟩ : ∃ m, k = m + 1 := ⟨k - 1, by omega⟩
    have : (l.take 12).drop i = [] := List.drop_eq_nil_of_le (by simp; omega)
    rw [this, List.map_nil, List.append_nil]
    simp only [aircheckref36_Codes2.l0]
    split
    · rw [if_neg (by omega)]
    · rfl
  | succ d ih =>
    intro k i out h1 h2 hd hk ho
    obtain ⟨k, rfl⟩ : ∃ m, k = m + 1 := ⟨k - 1, by omega⟩
    simp only [aircheckref36_Codes2.l0]
    by_cases hc : i < l.length
    · have hx := hw _ (List.getElem_mem hc)
      have q := pickP_in (a := l[i]) (n := 7) (by omega)
      rw [if_pos (by omega), if_pos (by omega), if_pos (by omega), rd_get hc, rpick_f hx (by omega), Option.bind_some, if_pos (by omega), wrap_id (x := pickP l[i] 7 - 1) (by omega) (by omega), wrap_up hc hl,
        ih k (i + 1) _ (by omega) (by omega) (by omega) (by omega) (by simp; omega)]
      have e1 : (l.take 12).drop i = l[i] :: (l.take 12).drop (i + 1) := by
        rw [List.drop_eq_getElem_cons (by simp; omega)]
        simp
      rw [e1, List.map_cons]
      simp
    · rw [if_neg (by omega)]
      have : (l.take 12).drop i = [] := List.drop_eq_nil_of_le (by simp; omega)
      rw [this]
      simp
theorem codes2_f {l : List Int} (hl : l.length ≤ 9223372036854775806) (hw : ∀ x ∈ l, I64 x) {k : Nat} (hk : 13 ≤ k) : aircheckref36_Codes2.f k l = some (codes2P l) := by
  unfold aircheckref36_Codes2.f codes2P
  have := codes2_l0 l hl hw 12 k 0 [] (by omega) (by omega) rfl (by omega) (by simp)
  simpa using this
theorem codes2_in (l : List Int) : (codes2P l).length ≤ 12 ∧ ∀ x ∈ codes2P l, -1 ≤ x ∧ x ≤ 5 := by
  refine ⟨by simp [codes2P]; omega, fun x hx => ?_⟩
  obtain ⟨y, _, rfl⟩ := List.mem_map.1 hx
  have := pickP_in (a := y) (n := 7) (by omega)
  omega
theorem ints_l0 (a b : List Int) (hab : a.length = b.length) (hl : a.length ≤ 9223372036854775806) (d : Nat) : ∀ (k i : Nat), i ≤ a.length → a.length - i = d → d + 1 ≤ k →
    aircheckref36_Ints.l0 k a b (i : Int) = some (decide (a.drop i = b.drop i)) := by
  induction d with
  | zero =>
    intro k i h1 hd hk
    obtain ⟨k, rfl⟩ : ∃ m, k = m + 1 := ⟨k - 1, by omega⟩
    simp only [aircheckref36_Ints.l0]
    rw [if_neg (by omega), List.drop_eq_nil_of_le (by omega), List.drop_eq_nil_of_le (by omega)]
    simp
  | succ d ih =>
    intro k i h1 hd hk
    obtain ⟨k, rfl⟩ : ∃ m, k = m + 1 := ⟨k - 1, by omega⟩
    have hc : i < a.length := by omega
    have hc2 : i < b.length := by omega
    simp only [aircheckref36_Ints.l0]
    rw [if_pos (by omega), if_pos (by omega), if_pos (by omega), rd_get hc, rd_get hc2, List.drop_eq_getElem_cons hc, List.drop_eq_getElem_cons hc2]
    by_cases he : a[i] = b[i]
    · rw [if_pos he, wrap_up hc hl, ih k (i + 1) (by omega) (by omega) (by omega), he]
      simp only [List.cons.injEq, true_and]
    · rw [if_neg he]
      simp only [List.cons.injEq, he, false_and, decide_false]
theorem ints_f {a b : List Int} (ha : a.length ≤ 9223372036854775806) {k : Nat} (hk : a.length + 1 ≤ k) : aircheckref36_Ints.f k a b = some (decide (a = b)) := by
  unfold aircheckref36_Ints.f
  by_cases h : a.length = b.length
  · rw [if_pos (by omega)]
    exact ints_l0 a b h ha a.length k 0 (by omega) (by omega) hk
  · rw [if_neg (by omega)]
    have : a ≠ b := fun e => h (by rw [e])
    simp [this]
/-! The cost: the least distance to a part. -/
def IsCost (a b : List Int) (n : Nat) : Prop := (∃ p q s, b = p ++ q ++ s ∧ Ed a q n) ∧ ∀ p q s m, b = p ++ q ++ s → Ed a q m → n ≤ m
theorem IsCost.eq {a b : List Int} {n m : Nat} (h : IsCost a b n) (h' : IsCost a b m) : n = m := by
  obtain ⟨⟨p, q, s, e, d⟩, u⟩ := h
  obtain ⟨⟨p', q', s', e', d'⟩, u'⟩ := h'
  exact Nat.le_antisymm (u _ _ _ _ e' d') (u' _ _ _ _ e d)
theorem fp_minF_le : ∀ (l : List Int) (m : Int), fp_minF m l ≤ m ∧ ∀ x ∈ l, fp_minF m l ≤ x
  | [], m => by simp [fp_minF]
  | y :: l, m => by
    obtain ⟨h1, h2⟩ := fp_minF_le l (if y < m then y else m)
    have e : fp_minF m (y :: l) = fp_minF (if y < m then y else m) l := rfl
    rw [e]
    have h3 : (if y < m then y else m) ≤ m ∧ (if y < m then y else m) ≤ y := by split <;> omega
    refine ⟨by omega, fun x hx => ?_⟩
    rw [List.mem_cons] at hx
    rcases hx with rfl | hx
    · omega
    · exact h2 x hx
theorem fp_minF_mem : ∀ (l : List Int) (m : Int), fp_minF m l = m ∨ fp_minF m l ∈ l
  | [], m => by simp [fp_minF]
  | y :: l, m => by
    have e : fp_minF m (y :: l) = fp_minF (if y < m then y else m) l := rfl
    rw [e]
    rcases fp_minF_mem l (if y < m then y else m) with h | h
    · rw [h]; split
      · right; simp
      · left; rfl
    · right; simp [h]
theorem rowG_mem {D : List Int → List Int → Nat} {A b : List Int} {x : Int} (h : x ∈ rowG D A [] b) : ∃ k, k ≤ b.length ∧ x = (D A (b.take k).reverse : Int) := by
  obtain ⟨k, hk, e⟩ := List.getElem_of_mem h
  rw [rowG_length] at hk
  refine ⟨k, by omega, ?_⟩
  have := rowG_get D A b [] k (by omega)
  rw [List.getElem?_eq_getElem (by rw [rowG_length]; omega)] at this
  rw [← e, Option.some.inj this]
  simp
theorem rowG_get_mem (D : List Int → List Int → Nat) (A b : List Int) {k : Nat} (h : k ≤ b.length) : (D A (b.take k).reverse : Int) ∈ rowG D A [] b := by
  have := rowG_get D A b [] k h
  rw [List.append_nil] at this
  exact List.mem_of_getElem? this
theorem cost_row (a b : List Int) : ∃ n : Nat, slices_Min_int_int.f (rowG fr a.reverse [] b) = some (n : Int) ∧ IsCost a b n := by
  obtain ⟨x, l, e⟩ : ∃ x l, rowG fr a.reverse [] b = x :: l := by cases b <;> exact ⟨_, _, rfl⟩
  obtain ⟨h1, h2⟩ := fp_minF_le l x
  have hm : fp_minF x l ∈ rowG fr a.reverse [] b := by
    rw [e]
    rcases fp_minF_mem l x with h | h
    · rw [h]; simp
    · simp [h]
  have hle : ∀ y ∈ rowG fr a.reverse [] b, fp_minF x l ≤ y := by
    intro y hy
    rw [e, List.mem_cons] at hy
    rcases hy with rfl | hy
    · exact h1
    · exact h2 y hy
  obtain ⟨k, hk, ek⟩ := rowG_mem hm
  refine ⟨fr a.reverse (b.take k).reverse, by rw [e, ← ek]; rfl, ?_, ?_⟩
  · obtain ⟨p, q, e1, d⟩ := fr_ed a.reverse (b.take k).reverse
    have e2 : b.take k = q.reverse ++ p.reverse := by
      have := congrArg List.reverse e1
      simpa using this
    refine ⟨q.reverse, p.reverse, b.drop k, by rw [← e2, List.take_append_drop], ?_⟩
    have := d.reverse
    simpa using this
  · intro p q s m eb d
    have hk2 : p.length + q.length ≤ b.length := by rw [eb]; simp
    have h3 := hle _ (rowG_get_mem fr a.reverse b hk2)
    have e3 : (b.take (p.length + q.length)).reverse = q.reverse ++ p.reverse := by
      rw [eb, List.take_append_of_le_length (by simp), List.take_of_length_le (by simp)]
      simp
    have h4 := fr_le d.reverse p.reverse
    rw [ek, e3] at h3
    omega
theorem cost_f {a b : List Int} (ha : Hd a) (hb : Pr b) {k : Nat} (hk : 1 ≤ k) : ∃ n : Nat, fingerprint_Cost.f k a b = some ((n : Int), 0) ∧ IsCost a b n := by
  obtain ⟨k, rfl⟩ : ∃ m, k = m + 1 := ⟨k - 1, by omega⟩
  obtain ⟨n, h1, h2⟩ := cost_row a b
  refine ⟨n, ?_, h2⟩
  unfold fingerprint_Cost.f
  rw [heard_f ha, isPrint_f hb]
  simp only [Option.bind_some, if_true, Bool.not_true, fingerprint_Cost.j0]
  rw [if_neg (by simp), last_f ha.1 hb.2.1]
  show (slices_Min_int_int.f (rowG fr a.reverse [] b)).bind _ = _
  rw [h1]
  rfl
/-! what a cost leads to another one -/
theorem Ed.split {c q : List Int} {m : Nat} (h : Ed c q m) : ∀ (a a' : List Int), c = a ++ a' → ∃ q1 q2 m1 m2, q = q1 ++ q2 ∧ m = m1 + m2 ∧ Ed a q1 m1 ∧ Ed a' q2 m2 := by
  induction h with
  | nil =>
    intro a a' e
    have e1 := List.append_eq_nil_iff.1 e.symm
    rw [e1.1, e1.2]
    exact ⟨[], [], 0, 0, rfl, rfl, .nil, .nil⟩
  | @keep x c q n hd ih =>
    intro a a' e
    cases a with
    | nil => exact ⟨[], x :: q, 0, n, rfl, by omega, .nil, by rw [List.nil_append] at e; rw [← e]; exact .keep x hd⟩
    | cons y a =>
      rw [List.cons_append] at e
      injection e with e1 e2
      subst e1
      obtain ⟨q1, q2, m1, m2, e3, e4, d1, d2⟩ := ih a a' e2
      exact ⟨x :: q1, q2, m1, m2, by rw [e3]; rfl, e4, .keep x d1, d2⟩
  | @other x y c q n hd ih =>
    intro a a' e
    cases a with
    | nil => exact ⟨[], y :: q, 0, n + 1, rfl, by omega, .nil, by rw [List.nil_append] at e; rw [← e]; exact .other x y hd⟩
    | cons z a =>
      rw [List.cons_append] at e
      injection e with e1 e2
      subst e1
      obtain ⟨q1, q2, m1, m2, e3, e4, d1, d2⟩ := ih a a' e2
      exact ⟨y :: q1, q2, m1 + 1, m2, by rw [e3]; rfl, by omega, .other x y d1, d2⟩
  | @extra x c q n hd ih =>
    intro a a' e
    cases a with
    | nil => exact ⟨[], q, 0, n + 1, rfl, by omega, .nil, by rw [List.nil_append] at e; rw [← e]; exact .extra x hd⟩
    | cons z a =>
      rw [List.cons_append] at e
      injection e with e1 e2
      subst e1
      obtain ⟨q1, q2, m1, m2, e3, e4, d1, d2⟩ := ih a a' e2
      exact ⟨q1, q2, m1 + 1, m2, e3, by omega, .extra x d1, d2⟩
  | @lost y c q n hd ih =>
    intro a a' e
    obtain ⟨q1, q2, m1, m2, e3, e4, d1, d2⟩ := ih a a' e
    exact ⟨y :: q1, q2, m1 + 1, m2, by rw [e3]; rfl, by omega, .lost y d1, d2⟩
theorem IsCost.part {a b p s : List Int} {n : Nat} (h : IsCost a b n) (e : b = p ++ a ++ s) : n = 0 := by
  have := h.2 p a s 0 e (Ed.refl a); omega
theorem IsCost.more {a b : List Int} {x : Int} {n m : Nat} (h : IsCost a b n) (h' : IsCost (a ++ [x]) b m) : n ≤ m ∧ m ≤ n + 1 := by
  refine ⟨?_, ?_⟩
  · obtain ⟨⟨p, q, s, e, d⟩, _⟩ := h'
    obtain ⟨q1, q2, m1, m2, e3, e4, d1, _⟩ := d.split a [x] rfl
    have := h.2 p q1 (q2 ++ s) m1 (by rw [e, e3]; simp) d1
    omega
  · obtain ⟨⟨p, q, s, e, d⟩, _⟩ := h
    exact h'.2 p q s (n + 1) e (by simpa using d.append (Ed.extra x .nil))
def noise : List Int → Nat
  | [] => 0
  | x :: l => (if x = -1 then 1 else 0) + noise l
theorem Ed.noise {a q : List Int} {m : Nat} (h : Ed a q m) (hq : ∀ x ∈ q, 0 ≤ x) : noise a ≤ m := by
  induction h with
  | nil => simp [PFR.noise]
  | keep x _ ih => have := hq x (by simp); have := ih (fun y hy => hq y (by simp [hy])); rw [PFR.noise, if_neg (by omega)]; omega
  | other x y _ ih => have := ih (fun y hy => hq y (by simp [hy])); rw [PFR.noise]; split <;> omega
  | extra x _ ih => have := ih hq; rw [PFR.noise]; split <;> omega
  | lost y _ ih => have := ih (fun y hy => hq y (by simp [hy])); omega
theorem IsCost.noise {a b : List Int} {n : Nat} (h : IsCost a b n) (hb : ∀ x ∈ b, 0 ≤ x) : noise a ≤ n := by
  obtain ⟨⟨p, q, s, e, d⟩, _⟩ := h
  exact d.noise (fun x hx => hb x (by rw [e]; simp [hx]))
theorem IsCost.reverse {a b : List Int} {n : Nat} (h : IsCost a b n) : IsCost a.reverse b.reverse n := by
  obtain ⟨⟨p, q, s, e, d⟩, u⟩ := h
  refine ⟨⟨s.reverse, q.reverse, p.reverse, by rw [e]; simp, d.reverse⟩, fun p' q' s' m e' d' => ?_⟩
  have e2 : b = s'.reverse ++ q'.reverse ++ p'.reverse := by
    have := congrArg List.reverse e'
    simpa using this
  exact u _ _ _ m e2 (by simpa using d'.reverse)
/-! the codes of a print -/
def codesP (l : List Int) : List Int := if l = [] then [1] else (l.take 16).map (fun x => pickP x 6)
theorem codes_l0 (l : List Int) (hl : l.length ≤ 9223372036854775806) (hw : ∀ x ∈ l, I64 x) (d : Nat) : ∀ (k i : Nat) (out : List Int), 1 ≤ i → i ≤ 16 → i ≤ l.length → 16 - i = d → 2 * d + 2 ≤ k → out.length ≤ i →
    aircheckref36_Codes.l0 k l out (i : Int) = some (out ++ ((l.take 16).drop i).map (fun x => pickP x 6)) := by
  induction d with
  | zero =>
    intro k i out h0 h1 h2 hd hk ho
    obtain ⟨k, rfl⟩ : ∃ m, k = m + 2 := ⟨k - 2, by omega⟩
    have : (l.take 16).drop i = [] := List.drop_eq_nil_of_le (by simp; omega)
    rw [this, List.map_nil, List.append_nil]
    simp only [aircheckref36_Codes.l0, aircheckref36_Codes.j1]
    split
    · rw [if_neg (by simp; omega)]
    · rfl
  | succ d ih =>
    intro k i out h0 h1 h2 hd hk ho
    obtain ⟨k, rfl⟩ : ∃ m, k = m + 2 := ⟨k - 2, by omega⟩
    simp only [aircheckref36_Codes.l0, aircheckref36_Codes.j1]
    by_cases hc : i < l.length
    · have hx := hw _ (List.getElem_mem hc)
      rw [if_pos (by omega), if_pos (by simp; omega), if_neg (by omega), if_pos (by omega), if_pos (by omega), rd_get hc, rpick_f hx (by omega), Option.bind_some, if_pos (by omega), wrap_up hc hl,
        ih k (i + 1) _ (by omega) (by omega) (by omega) (by omega) (by omega) (by simp; omega)]
      have e1 : (l.take 16).drop i = l[i] :: (l.take 16).drop (i + 1) := by
        rw [List.drop_eq_getElem_cons (by simp; omega)]
        simp
      rw [e1, List.map_cons]
      simp
    · rw [if_neg (by omega)]
      have : (l.take 16).drop i = [] := List.drop_eq_nil_of_le (by simp; omega)
      rw [this]
      simp
theorem codes_f {l : List Int} (hl : l.length ≤ 9223372036854775806) (hw : ∀ x ∈ l, I64 x) {k : Nat} (hk : 40 ≤ k) : aircheckref36_Codes.f k l = some (codesP l) := by
  unfold aircheckref36_Codes.f codesP
  obtain ⟨k, rfl⟩ : ∃ m, k = m + 2 := ⟨k - 2, by omega⟩
  cases l with
  | nil => simp [aircheckref36_Codes.l0, aircheckref36_Codes.j1]
  | cons x l =>
    have hx := hw x (by simp)
    simp only [aircheckref36_Codes.l0, aircheckref36_Codes.j1]
    rw [if_pos (by simp), if_pos (by simp), if_pos trivial, if_pos (by omega), if_pos (by simp), show rd (x :: l) 0 = x from rfl, rpick_f hx (by omega), Option.bind_some, if_pos (by simp), show wrap64 ((0 : Int) + 1) = ((1 : Nat) : Int) from by rw [wrap_id (by omega) (by omega)]; rfl,
      codes_l0 (x :: l) hl hw 15 k 1 _ (by omega) (by omega) (by simp) (by omega) (by omega) (by simp)]
    simp
theorem codes_pr (l : List Int) : Pr (codesP l) ∧ (codesP l).length ≤ 16 := by
  unfold codesP
  split
  · exact ⟨⟨by simp, by simp, by simp⟩, by simp⟩
  · rename_i h
    have hl : 1 ≤ l.length := by cases l with | nil => exact absurd rfl h | cons => simp
    refine ⟨⟨by simp; omega, by simp; omega, fun x hx => ?_⟩, by simp; omega⟩
    obtain ⟨y, _, rfl⟩ := List.mem_map.1 hx
    have := pickP_in (a := y) (n := 6) (by omega)
    omega
theorem cut_parts {c : List Int} {i j : Nat} (hi : i ≤ j) : c = c.take i ++ (c.take j).drop i ++ c.drop j := by
  have h1 : c.take i ++ (c.take j).drop i = c.take j := by
    have : (c.take j).take i = c.take i := by rw [List.take_take, Nat.min_eq_left hi]
    rw [← this, List.take_append_drop]
  rw [h1, List.take_append_drop]
theorem Hd.sub {c q : List Int} (h : Hd c) (hl : q.length ≤ c.length) (hs : ∀ x ∈ q, x ∈ c) : Hd q := ⟨by have := h.1; omega, fun x hx => h.2 x (hs x hx)⟩
theorem Hd.cut {c : List Int} (h : Hd c) (i j : Nat) : Hd ((c.take j).drop i) := h.sub (by simp; omega) (fun x hx => List.mem_of_mem_take (List.mem_of_mem_drop hx))
theorem Hd.reverse {c : List Int} (h : Hd c) : Hd c.reverse := h.sub (by simp) (fun x hx => by simpa using hx)
theorem Pr.reverse {c : List Int} (h : Pr c) : Pr c.reverse := ⟨by simpa using h.1, by simpa using h.2.1, fun x hx => h.2.2 x (by simpa using hx)⟩
end Go.Proofs.Ytgaepndbfpfniaa.PFR
