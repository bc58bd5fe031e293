/- The plain theory of timelines; no condition. -/
import Derived.Test.YtglcdgalimgkeaaDoorPJBx10
import Derived.Test.YtglcdgalimgkeaaDoorPJBx11
import Derived.Test.YtglcdgalimgkeaaDoorPJBx16
import Derived.Test.YtglcdgalimgkeaaDoorPJBx19
import Derived.Test.YtglcdgalimgkeaaDoorPJBx20
import Derived.Test.YtglcdgalimgkeaaDoorPJBx23
import Derived.Test.YtglcdgalimgkeaaDoorPJBx24
import Derived.Test.YtglcdgalimgkeaaDoorPJBx25
import Derived.Test.YtglcdgalimgkeaaDoorPJBx26
import Derived.Test.YtglcdgalimgkeaaDoorPJBx27
import Derived.Test.YtglcdgalimgkeaaDoorPJBx28
import Derived.Test.YtglcdgalimgkeaaDoorPJBx30
import Derived.Test.YtglcdgalimgkeaaDoorPJBx6
import Derived.Test.YtglcdgalimgkeaaDoorPJBx7
import Derived.Test.YtglcdgalimgkeaaDoorPJBx8
import Derived.Test.YtglcdgalimgkeaaDoorPJBx9
import Derived.OpenShut
namespace Go.Proofs.YtglcdgalimgkeaaDoor.PJB
open Go.RowKit Go.Proofs.YtglcdgalimgkeaaDoorW.PrintWords Go.Proofs.YtglcdgalimgkeaaDoorW.PrintLast Go.Proofs.YtglcdgalimgkeaaDoorW.PrintMore
def Evl {α : Type} (g : Nat → Option α) (r : α) : Prop := ∃ K, ∀ k, K ≤ k → g k = some r
theorem Evl.pure {α : Type} (r : α) : Evl (fun _ => some r) r := ⟨0, fun _ _ => rfl⟩
theorem Evl.bind {α β : Type} {g : Nat → Option α} {a : α} {h : Nat → α → Option β} {r : β} (h1 : Evl g a) (h2 : Evl (fun k => h k a) r) : Evl (fun k => (g k).bind (h k)) r := by
  obtain ⟨K1, h1⟩ := h1
  obtain ⟨K2, h2⟩ := h2
  exact ⟨max K1 K2, fun k hk => by show (g k).bind (h k) = some r; rw [h1 k (by omega)]; exact h2 k (by omega)⟩
theorem Evl.succ {α : Type} {g : Nat → Option α} {r : α} (h : Evl (fun k => g (k + 1)) r) : Evl g r := by
  obtain ⟨K, h⟩ := h
  exact ⟨K + 1, fun k hk => by obtain ⟨m, rfl⟩ : ∃ m, k = m + 1 := ⟨k - 1, by omega⟩; exact h m (by omega)⟩
theorem wrap_id {x : Int} (h1 : -9223372036854775808 ≤ x) (h2 : x ≤ 9223372036854775807) : wrap64 x = x := by
  unfold wrap64; omega
def Cont : List S74 → Int → Int → Prop
  | [], a, b => a = b
  | s :: l, a, b => s.f0 = a ∧ a < s.f1 ∧ Cont l s.f1 b
theorem Cont.le : ∀ {l : List S74} {a b : Int}, Cont l a b → a ≤ b
  | [], _, _, h => by unfold Cont at h; omega
  | s :: l, a, b, h => by have := Cont.le h.2.2; have := h.2.1; omega
theorem Cont.append : ∀ {l m : List S74} {a b c : Int}, Cont l a b → Cont m b c → Cont (l ++ m) a c
  | [], m, a, b, c, h, k => by unfold Cont at h; subst h; exact k
  | s :: l, m, a, b, c, h, k => ⟨h.1, h.2.1, Cont.append h.2.2 k⟩
theorem Cont.split : ∀ {l m : List S74} {a c : Int}, Cont (l ++ m) a c → ∃ b, Cont l a b ∧ Cont m b c
  | [], m, a, c, h => ⟨a, rfl, h⟩
  | s :: l, m, a, c, h => by
    obtain ⟨b, h1, h2⟩ := Cont.split (l := l) h.2.2
    exact ⟨b, ⟨h.1, h.2.1, h1⟩, h2⟩
def own : List S74 → Int → Option Int
  | [], _ => none
  | s :: l, t => if s.f0 ≤ t ∧ t < s.f1 then some s.f2 else own l t
theorem own_append : ∀ (l m : List S74) (t : Int), own (l ++ m) t = (own l t).or (own m t)
  | [], m, t => by simp [own]
  | s :: l, m, t => by
    simp only [List.cons_append, own]
    split
    · simp
    · exact own_append l m t
theorem own_out : ∀ {l : List S74} {a b t : Int}, Cont l a b → (t < a ∨ b ≤ t) → own l t = none
  | [], _, _, _, _, _ => rfl
  | s :: l, a, b, t, h, ht => by
    have h1 := h.1
    have h2 := h.2.1
    have h3 := h.2.2.le
    simp only [own]
    rw [if_neg (by omega)]
    exact own_out h.2.2 (by omega)
theorem own_in : ∀ {l : List S74} {a b t : Int}, Cont l a b → a ≤ t → t < b → ∃ o, own l t = some o
  | [], a, b, t, h, h1, h2 => by unfold Cont at h; omega
  | s :: l, a, b, t, h, h1, h2 => by
    simp only [own]
    by_cases hc : s.f0 ≤ t ∧ t < s.f1
    · exact ⟨_, by rw [if_pos hc]⟩
    · rw [if_neg hc]
      have h3 := h.1
      exact own_in h.2.2 (by omega) h2
/-- No two neighbours have one owner; o: the owner ahead of the first. -/
def Can : Option Int → List S74 → Prop
  | _, [] => True
  | o, s :: l => some s.f2 ≠ o ∧ Can (some s.f2) l
def lastO (o : Option Int) (l : List S74) : Option Int := match l.getLast? with
  | none => o
  | some s => some s.f2
theorem Can.append : ∀ {l m : List S74} {o : Option Int}, Can o (l ++ m) ↔ Can o l ∧ Can (lastO o l) m
  | [], m, o => by simp [Can, lastO]
  | s :: l, m, o => by
    simp only [List.cons_append, Can]
    rw [Can.append (l := l), and_assoc]
    have : lastO (some s.f2) l = lastO o (s :: l) := by
      unfold lastO
      cases l with
      | nil => rfl
      | cons x l => rw [List.getLast?_cons_cons, List.getLast?_cons]
    rw [this]
def Good (s : S74) : Prop := 0 ≤ s.f2 ∧ s.f2 ≤ 2999 ∧ s.f1 ≤ 10000000
theorem validF_iff : ∀ (l : List S74) (a : Int) (o : Int), tl_validF l a o = true ↔ (∃ b, Cont l a b) ∧ Can (some o) l ∧ ∀ s ∈ l, Good s
  | [], a, o => by simp [tl_validF, Cont, Can]
  | s :: l, a, o => by
    simp only [tl_validF, Bool.and_eq_true, decide_eq_true_eq, Bool.not_eq_true', decide_eq_false_iff_not, validF_iff l]
    constructor
    · rintro ⟨⟨⟨⟨⟨⟨h1, h2⟩, h3⟩, h4⟩, h5⟩, h6⟩, ⟨b, hb⟩, hc, hg⟩
      exact ⟨⟨b, h1, h2, hb⟩, ⟨by simpa using h6, hc⟩, by
        intro x hx
        rcases List.mem_cons.1 hx with rfl | hx
        · exact ⟨h4, h5, h3⟩
        · exact hg x hx⟩
    · rintro ⟨⟨b, h1, h2, hb⟩, ⟨h6, hc⟩, hg⟩
      obtain ⟨h4, h5, h3⟩ := hg s (by simp)
      exact ⟨⟨⟨⟨⟨⟨h1, h2⟩, h3⟩, h4⟩, h5⟩, by simpa using h6⟩, ⟨b, hb⟩, hc, fun x hx => hg x (by simp [hx])⟩
theorem tend_of {l : List S74} {b : Int} : ∀ {a : Int}, Cont l a b → l ≠ [] → tl_tend l = b := by
  induction l with
  | nil => intro a h hn; exact absurd rfl hn
  | cons s l ih =>
    intro a h _
    cases l with
    | nil => have := h.2.2; unfold Cont at this; simpa [tl_tend] using this
    | cons x l =>
      have h1 := ih h.2.2 (by simp)
      have h2 : tl_tend (s :: x :: l) = tl_tend (x :: l) := by unfold tl_tend; simp
      rw [h2, h1]
theorem tend_cont {l : List S74} {b : Int} (h : Cont l 0 b) : tl_tend l = b := by
  by_cases hn : l = []
  · subst hn; unfold Cont at h; subst h; rfl
  · exact tend_of h hn
theorem Can.free : ∀ {l : List S74} {o : Option Int}, Can o l → Can none l
  | [], _, _ => trivial
  | s :: l, _, h => ⟨by simp, h.2⟩
theorem Can.neg {l : List S74} (h : Can none l) (hg : ∀ s ∈ l, Good s) : Can (some (-1)) l := by
  cases l with
  | nil => trivial
  | cons s l => exact ⟨by have := (hg s (by simp)).1; simp; omega, h.2⟩
/-- A valid timeline. -/
structure Tl (l : List S74) (e : Int) : Prop where
  cont : Cont l 0 e
  can : Can none l
  good : ∀ s ∈ l, Good s
theorem validB_iff (l : List S74) : tl_validB l = true ↔ (∃ e, Tl l e) ∧ l.length ≤ 200 := by
  unfold tl_validB
  rw [Bool.and_eq_true, validF_iff, decide_eq_true_eq]
  constructor
  · rintro ⟨⟨⟨b, hb⟩, hc, hg⟩, hl⟩
    exact ⟨⟨b, hb, hc.free, hg⟩, hl⟩
  · rintro ⟨⟨e, h⟩, hl⟩
    exact ⟨⟨⟨e, h.cont⟩, h.can.neg h.good, h.good⟩, hl⟩
theorem addS_nil (s : S74) : tl_addS [] s = [s] := rfl
theorem addS_cont {xs : List S74} {s : S74} {a b : Int} (h : Cont xs a b) (h0 : s.f0 = b) (h1 : b < s.f1) : Cont (tl_addS xs s) a s.f1 := by
  rcases List.eq_nil_or_concat xs with rfl | ⟨ys, z, rfl⟩
  · unfold Cont at h; subst h
    exact ⟨h0, h1, rfl⟩
  · rw [List.concat_eq_append] at h ⊢
    rw [tl_addS_snoc]
    obtain ⟨c, hc, hz⟩ := h.split
    have hz3 : z.f1 = b := hz.2.2
    split
    · exact hc.append ⟨hz.1, by show c < s.f1; have := hz.2.1; omega, rfl⟩
    · exact h.append ⟨h0, h1, rfl⟩
theorem addS_own {xs : List S74} {s : S74} {a b : Int} (h : Cont xs a b) (h0 : s.f0 = b) (h1 : b < s.f1) (t : Int) : own (tl_addS xs s) t = own (xs ++ [s]) t := by
  rcases List.eq_nil_or_concat xs with rfl | ⟨ys, z, rfl⟩
  · rfl
  · rw [List.concat_eq_append] at h ⊢
    rw [tl_addS_snoc]
    obtain ⟨c, hc, hz⟩ := h.split
    have hz3 : z.f1 = b := hz.2.2
    have hz1 := hz.1
    have hz2 := hz.2.1
    split
    · rename_i ho
      rw [List.append_assoc, own_append, own_append]
      congr 1
      simp only [own, List.cons_append, List.nil_append]
      by_cases c1 : z.f0 ≤ t ∧ t < s.f1
      · rw [if_pos c1]
        by_cases c2 : z.f0 ≤ t ∧ t < z.f1
        · rw [if_pos c2]
        · rw [if_neg c2, if_pos (by omega), ho]
      · rw [if_neg c1, if_neg (by omega), if_neg (by omega)]
    · rfl
theorem lastO_snoc (o : Option Int) (l : List S74) (s : S74) : lastO o (l ++ [s]) = some s.f2 := by simp [lastO]
theorem addS_can {xs : List S74} {s : S74} {o : Option Int} (h : Can o xs) (hs : xs = [] → some s.f2 ≠ o) : Can o (tl_addS xs s) := by
  rcases List.eq_nil_or_concat xs with rfl | ⟨ys, z, rfl⟩
  · exact ⟨hs rfl, trivial⟩
  · rw [List.concat_eq_append] at h ⊢
    rw [tl_addS_snoc]
    split
    · exact Can.append.2 ⟨(Can.append.1 h).1, (Can.append.1 h).2⟩
    · rename_i ho
      exact Can.append.2 ⟨h, by rw [lastO_snoc]; exact ⟨by simp; exact fun e => ho e.symm, trivial⟩⟩
theorem addS_good {xs : List S74} {s : S74} (h : ∀ x ∈ xs, Good x) (hs : Good s) : ∀ x ∈ tl_addS xs s, Good x := by
  rcases List.eq_nil_or_concat xs with rfl | ⟨ys, z, rfl⟩
  · intro x hx; rw [addS_nil] at hx; rw [List.mem_singleton.1 hx]; exact hs
  · rw [List.concat_eq_append] at h ⊢
    rw [tl_addS_snoc]
    split
    · intro x hx
      rcases List.mem_append.1 hx with hx | hx
      · exact h x (by simp [hx])
      · rw [List.mem_singleton.1 hx]
        have hz := h z (by simp)
        exact ⟨hz.1, hz.2.1, hs.2.2⟩
    · intro x hx
      rcases List.mem_append.1 hx with hx | hx
      · exact h x hx
      · rw [List.mem_singleton.1 hx]; exact hs
theorem addAll_cons (zs : List S74) (y : S74) (ys : List S74) : tl_addAll zs (y :: ys) = tl_addAll (tl_addS zs y) ys := rfl
theorem addAll_app (zs ys xs : List S74) : tl_addAll zs (ys ++ xs) = tl_addAll (tl_addAll zs ys) xs := by simp [tl_addAll]
theorem addAll_all : ∀ (ys : List S74) {zs : List S74} {a b c : Int}, Cont zs a b → Cont ys b c → Can none zs → (∀ s ∈ zs, Good s) → (∀ s ∈ ys, Good s) →
    Cont (tl_addAll zs ys) a c ∧ Can none (tl_addAll zs ys) ∧ (∀ s ∈ tl_addAll zs ys, Good s) ∧ ∀ t, own (tl_addAll zs ys) t = own (zs ++ ys) t
  | [], zs, a, b, c, h, k, h1, h2, h3 => by unfold Cont at k; subst k; exact ⟨h, h1, h2, fun t => by simp [tl_addAll]⟩
  | y :: ys, zs, a, b, c, h, k, h1, h2, h3 => by
    rw [addAll_cons]
    obtain ⟨g1, g2, g3, g4⟩ := addAll_all ys (addS_cont h k.1 (by have := k.2.1; omega)) k.2.2 (addS_can h1 (fun _ => by simp)) (addS_good h2 (h3 y (by simp))) (fun s hs => h3 s (by simp [hs]))
    refine ⟨g1, g2, g3, fun t => ?_⟩
    rw [g4, own_append, addS_own h k.1 (by have := k.2.1; omega), ← own_append, List.append_assoc]
    rfl
theorem clip_cons (s : S74) (l : List S74) (lo hi : Int) : tl_clip (s :: l) lo hi = (if (tl_clip1 s lo hi).f0 < (tl_clip1 s lo hi).f1 then [tl_clip1 s lo hi] else []) ++ tl_clip l lo hi := by
  unfold tl_clip
  simp only [List.map_cons, List.filter_cons]
  split <;> simp_all
theorem own_clip (lo hi t : Int) : ∀ l : List S74, own (tl_clip l lo hi) t = if lo ≤ t ∧ t < hi then own l t else none
  | [] => by simp [tl_clip, own]
  | s :: l => by
    rw [clip_cons, own_append, own_clip lo hi t l]
    have e : own (if (tl_clip1 s lo hi).f0 < (tl_clip1 s lo hi).f1 then [tl_clip1 s lo hi] else []) t = if lo ≤ t ∧ t < hi ∧ s.f0 ≤ t ∧ t < s.f1 then some s.f2 else none := by
      have h0 : (tl_clip1 s lo hi).f0 = if s.f0 < lo then lo else s.f0 := rfl
      have h1 : (tl_clip1 s lo hi).f1 = if hi < s.f1 then hi else s.f1 := rfl
      have h2 : (tl_clip1 s lo hi).f2 = s.f2 := rfl
      split
      · simp only [own, h2]
        rw [h0, h1]
        by_cases c1 : s.f0 < lo <;> by_cases c2 : hi < s.f1 <;> simp only [c1, c2, if_true, if_false] <;> by_cases c3 : lo ≤ t ∧ t < hi ∧ s.f0 ≤ t ∧ t < s.f1
        all_goals first | rw [if_pos c3, if_pos (by omega)] | rw [if_neg c3, if_neg (by omega)]
      · rename_i hn
        rw [h0, h1] at hn
        simp only [own]
        rw [if_neg]
        intro h
        split at hn <;> split at hn <;> omega
    rw [e]
    simp only [own]
    by_cases c : lo ≤ t ∧ t < hi
    · by_cases d : s.f0 ≤ t ∧ t < s.f1
      · rw [if_pos ⟨c.1, c.2, d⟩, if_pos c, if_pos d, if_pos c]; rfl
      · rw [if_neg (fun h => d h.2.2), if_pos c, if_neg d, if_pos c]; rfl
    · rw [if_neg (fun h => c ⟨h.1, h.2.1⟩), if_neg c, if_neg c]; rfl
theorem clip_none : ∀ {l : List S74} {a b : Int} (lo hi : Int), Cont l a b → hi ≤ a → tl_clip l lo hi = []
  | [], _, _, _, _, _, _ => rfl
  | s :: l, a, b, lo, hi, h, k => by
    rw [clip_cons, clip_none lo hi h.2.2 (by have := h.2.1; omega), List.append_nil, if_neg]
    have h0 : (tl_clip1 s lo hi).f0 = if s.f0 < lo then lo else s.f0 := rfl
    have h1 : (tl_clip1 s lo hi).f1 = if hi < s.f1 then hi else s.f1 := rfl
    rw [h0, h1]
    have := h.1
    have := h.2.1
    split <;> split <;> omega
theorem clip_cont : ∀ {l : List S74} {a b lo hi : Int}, Cont l a b → lo ≤ hi → a ≤ hi → lo ≤ b → Cont (tl_clip l lo hi) (if a < lo then lo else a) (if hi < b then hi else b)
  | [], a, b, lo, hi, h, h1, h2, h3 => by
    unfold Cont at h
    show (if a < lo then lo else a) = (if hi < b then hi else b)
    split <;> split <;> omega
  | s :: l, a, b, lo, hi, h, h1, h2, h3 => by
    have e0 := h.1
    have e1 := h.2.1
    have e2 := h.2.2.le
    have g0 : (tl_clip1 s lo hi).f0 = if s.f0 < lo then lo else s.f0 := rfl
    have g1 : (tl_clip1 s lo hi).f1 = if hi < s.f1 then hi else s.f1 := rfl
    rw [clip_cons]
    by_cases c1 : hi < s.f1
    · rw [clip_none lo hi h.2.2 (by omega), List.append_nil]
      have e3 : (if hi < b then hi else b) = hi := if_pos (by omega)
      rw [e3]
      by_cases c2 : (tl_clip1 s lo hi).f0 < (tl_clip1 s lo hi).f1
      · rw [if_pos c2]
        refine ⟨by rw [g0, e0], ?_, ?_⟩
        · rw [g0, e0] at c2; exact c2
        · show (tl_clip1 s lo hi).f1 = hi
          rw [g1, if_pos c1]
      · rw [if_neg c2]
        show (if a < lo then lo else a) = hi
        rw [g0, g1, if_pos c1, e0] at c2
        split <;> split at c2 <;> omega
    · have ih := clip_cont (lo := lo) (hi := hi) h.2.2 h1 (by omega) h3
      by_cases c2 : (tl_clip1 s lo hi).f0 < (tl_clip1 s lo hi).f1
      · rw [if_pos c2]
        rw [g0, g1, if_neg c1] at c2
        refine ⟨by rw [g0, e0], ?_, ?_⟩
        · rw [g1, if_neg c1, ← e0]; exact c2
        · rw [g1, if_neg c1]
          have : (if s.f1 < lo then lo else s.f1) = s.f1 := if_neg (by split at c2 <;> omega)
          rw [this] at ih
          exact ih
      · rw [if_neg c2, List.nil_append]
        rw [g0, g1, if_neg c1] at c2
        have : (if s.f1 < lo then lo else s.f1) = (if a < lo then lo else a) := by split at c2 <;> split <;> split <;> omega
        rw [this] at ih
        exact ih
theorem clip_good {l : List S74} (lo hi : Int) (h : ∀ s ∈ l, Good s) : ∀ s ∈ tl_clip l lo hi, Good s := by
  intro s hs
  unfold tl_clip at hs
  simp only [List.mem_filter, List.mem_map] at hs
  obtain ⟨⟨x, hx, rfl⟩, _⟩ := hs
  obtain ⟨g1, g2, g3⟩ := h x hx
  refine ⟨g1, g2, ?_⟩
  show (if hi < x.f1 then hi else x.f1) ≤ 10000000
  split <;> omega
theorem clip_two : ∀ {l : List S74} {a b : Int} (x y : Int), Cont l a b → x < y → 0 ≤ a → (tl_clip l 0 x).length + (tl_clip l y b).length ≤ l.length + 1
  | [], _, _, _, _, _, _, _ => by simp [tl_clip]
  | s :: l, a, b, x, y, h, k, h0 => by
    have e0 := h.1
    have e1 := h.2.1
    have e2 := h.2.2.le
    rw [clip_cons, clip_cons]
    simp only [List.length_append, List.length_cons]
    have g0 : (tl_clip1 s 0 x).f0 = if s.f0 < 0 then 0 else s.f0 := rfl
    have g1 : (tl_clip1 s 0 x).f1 = if x < s.f1 then x else s.f1 := rfl
    have g2 : (tl_clip1 s y b).f0 = if s.f0 < y then y else s.f0 := rfl
    have g3 : (tl_clip1 s y b).f1 = if b < s.f1 then b else s.f1 := rfl
    by_cases c1 : s.f1 ≤ x
    · have ih := clip_two x y h.2.2 k (by omega)
      have : ¬ (tl_clip1 s y b).f0 < (tl_clip1 s y b).f1 := by rw [g2, g3]; split <;> split <;> omega
      rw [if_neg this]
      split <;> simp <;> omega
    · have e3 : tl_clip l 0 x = [] := clip_none 0 x h.2.2 (by omega)
      have e4 := tl_clip_len l y b
      rw [e3]
      split <;> split <;> simp <;> omega
theorem put_tl {l : List S74} {e a b c : Int} (h : Tl l e) (h0 : 0 ≤ a) (h1 : a < b) (h2 : b ≤ e) (h3 : 0 ≤ c) (h4 : c ≤ 2999) :
    Tl (tl_putP l a b c) e ∧ (∀ t, own (tl_putP l a b c) t = if a ≤ t ∧ t < b then some c else own l t) ∧ (tl_putP l a b c).length ≤ l.length + 2 := by
  have he : tl_tend l = e := tend_cont h.cont
  unfold tl_putP
  rw [he]
  have hgs : Good ⟨a, b, c⟩ := by
    refine ⟨h3, h4, ?_⟩
    show b ≤ 10000000
    have hn : l ≠ [] := by rintro rfl; have := h.cont; unfold Cont at this; omega
    obtain ⟨ys, z, hz⟩ : ∃ ys z, l = ys ++ [z] := by
      rcases List.eq_nil_or_concat l with h | ⟨ys, z, h⟩
      · exact absurd h hn
      · exact ⟨ys, z, by rw [h, List.concat_eq_append]⟩
    have hg := (h.good z (by rw [hz]; simp)).2.2
    have := tend_of h.cont hn
    rw [hz] at this
    simp [tl_tend] at this
    omega
  have c1 := clip_cont (lo := 0) (hi := a) h.cont h0 h0 (by omega)
  rw [if_neg (by omega)] at c1
  have c2 := clip_cont (lo := b) (hi := e) h.cont h2 (by omega) h2
  rw [if_pos (by omega), if_neg (by omega)] at c2
  have c1' : Cont (tl_clip l 0 a) 0 a := by
    have : (if a < e then a else e) = a := if_pos (by omega)
    rw [this] at c1
    exact c1
  obtain ⟨p1, p2, p3, p4⟩ := addAll_all (tl_clip l 0 a) (zs := []) (a := 0) (b := 0) rfl c1' trivial (by simp) (clip_good 0 a h.good)
  have q1 := addS_cont (s := ⟨a, b, c⟩) p1 rfl h1
  have q2 : Can none (tl_addS (tl_addAll [] (tl_clip l 0 a)) ⟨a, b, c⟩) := addS_can p2 (fun _ => by simp)
  have q3 := addS_good p3 hgs
  obtain ⟨r1, r2, r3, r4⟩ := addAll_all (tl_clip l b e) q1 c2 q2 q3 (clip_good b e h.good)
  refine ⟨⟨r1, r2, r3⟩, fun t => ?_, ?_⟩
  · rw [r4, own_append, addS_own p1 rfl h1, own_append, p4, List.nil_append, own_clip, own_clip]
    simp only [own]
    by_cases d1 : a ≤ t ∧ t < b
    · rw [if_neg (by omega), if_pos d1, if_pos d1]; rfl
    · rw [if_neg d1, if_neg d1]
      by_cases d2 : 0 ≤ t ∧ t < a
      · rw [if_pos d2, if_neg (by omega)]; cases own l t <;> rfl
      · rw [if_neg d2]
        by_cases d3 : b ≤ t ∧ t < e
        · rw [if_pos d3]; rfl
        · rw [if_neg d3, own_out h.cont (by omega)]; rfl
  · have e1 := tl_addAll_len (tl_clip l b e) (tl_addS (tl_addAll [] (tl_clip l 0 a)) ⟨a, b, c⟩)
    have e2 := tl_addS_len (tl_addAll [] (tl_clip l 0 a)) ⟨a, b, c⟩
    have e3 := tl_addAll_len (tl_clip l 0 a) []
    have e4 := clip_two a b h.cont h1 (Int.le_refl 0)
    simp at e3
    omega
theorem put_f {l : List S74} {e a b c : Int} (h : Tl l e) (hl : l.length ≤ 198) (h0 : 0 ≤ a) (h1 : a < b) (h2 : b ≤ e) (h3 : 0 ≤ c) (h4 : c ≤ 2999) : timeline_Put.f l a b c = some (tl_putP l a b c, 0) := by
  unfold timeline_Put.f
  have hv : tl_validB l = true := (validB_iff l).2 ⟨⟨e, h⟩, by omega⟩
  have hi : tl_insideB l a b = true := by
    unfold tl_insideB
    rw [tend_cont h.cont]
    simp [h0, h1, h2]
  have ho : tl_ownerB c = true := by simp [tl_ownerB, h3, h4]
  rw [if_pos (by rw [hv, hi, ho]; rfl)]
  unfold tl_doneF
  rw [if_neg (by have := (put_tl h h0 h1 h2 h3 h4).2.2; omega)]
def pickP (a n : Int) : Int := if a < 0 then (-(a + 1)) % n else a % n
theorem pickP_in {a n : Int} (hn : 0 < n) : 0 ≤ pickP a n ∧ pickP a n < n := by
  unfold pickP
  split
  · exact ⟨Int.emod_nonneg _ (by omega), Int.emod_lt_of_pos _ hn⟩
  · exact ⟨Int.emod_nonneg _ (by omega), Int.emod_lt_of_pos _ hn⟩
def I64 (a : Int) : Prop := -9223372036854775808 ≤ a ∧ a ≤ 9223372036854775807
theorem I64.of {a : Int} (h : (Lit.int .i64 a).wf = true) : I64 a := bounds_i64 h
theorem pick_f {a n : Int} (ha : I64 a) (hn : 0 < n) : airchecklaw38_pick.f a n = some (pickP a n) := by
  unfold airchecklaw38_pick.f pickP
  obtain ⟨h1, h2⟩ := ha
  by_cases h : a < 0
  · rw [if_pos h, if_pos h, if_neg (by omega), wrap_id (x := a + 1) (by omega) (by omega), wrap_id (by omega) (by omega), Int.tmod_eq_emod_of_nonneg (by omega)]
  · rw [if_neg h, if_neg h, if_neg (by omega), Int.tmod_eq_emod_of_nonneg (by omega)]
theorem rpick_f {a n : Int} (ha : I64 a) (hn : 0 < n) : aircheckref15_pick.f a n = some (pickP a n) := pick_f ha hn
def span1 (e : Int) (x : S127) : S74 := ⟨pickP x.f0 e, pickP x.f0 e + 1 + pickP x.f1 (e - pickP x.f0 e), pickP x.f2 8⟩
def spansP (e : Int) (l : List S127) : List S74 := (l.take 20).map (span1 e)
/-- A span inside the seconds up to e. -/
def Ins (e : Int) (s : S74) : Prop := 0 ≤ s.f0 ∧ s.f0 < s.f1 ∧ s.f1 ≤ e ∧ 0 ≤ s.f2 ∧ s.f2 ≤ 2999
theorem span1_in {e : Int} (he : 0 < e) (x : S127) : Ins e (span1 e x) ∧ (span1 e x).f2 ≤ 7 := by
  have h0 := pickP_in (a := x.f0) he
  have h1 := pickP_in (a := x.f1) (n := e - pickP x.f0 e) (by omega)
  have h2 := pickP_in (a := x.f2) (n := 8) (by omega)
  refine ⟨⟨h0.1, ?_, ?_, h2.1, ?_⟩, ?_⟩
  · show pickP x.f0 e < pickP x.f0 e + 1 + pickP x.f1 (e - pickP x.f0 e); omega
  · show pickP x.f0 e + 1 + pickP x.f1 (e - pickP x.f0 e) ≤ e; omega
  · show pickP x.f2 8 ≤ 2999; omega
  · show pickP x.f2 8 ≤ 7; omega
theorem spans_in {e : Int} (he : 0 < e) (l : List S127) : (∀ s ∈ spansP e l, Ins e s ∧ s.f2 ≤ 7) ∧ (spansP e l).length ≤ 20 := by
  refine ⟨fun s hs => ?_, by simp [spansP]; omega⟩
  obtain ⟨x, _, rfl⟩ := List.mem_map.1 hs
  exact span1_in he x
theorem rd29 {l : List S127} {i : Nat} (h : i < l.length) : rd_T127 l (i : Int) = l[i] := by simp [rd_T127, h]
theorem rd25 {l : List S74} {i : Nat} (h : i < l.length) : rd_T74 l (i : Int) = l[i] := by simp [rd_T74, h]
theorem spans_l0 {e : Int} (he : 0 < e) (he2 : e ≤ 10000000) (l : List S127) (hl : l.length ≤ 9223372036854775806) (hw : ∀ x ∈ l, Q127 x) (d : Nat) : ∀ (k i : Nat) (out : List S74), i ≤ 20 → i ≤ l.length → 20 - i = d → 2 * d + 2 ≤ k → out.length ≤ i →
    aircheckref15_Spans.l0 k e l out (i : Int) = some (out ++ ((l.take 20).drop i).map (span1 e)) := by
  induction d with
  | zero =>
    intro k i out h1 h2 hd hk ho
    obtain ⟨k, rfl⟩ : ∃ m, k = m + 2 := ⟨k - 2, by omega⟩
    have hi : i = 20 := by omega
    have : (l.take 20).drop i = [] := List.drop_eq_nil_of_le (by simp; omega)
    rw [this, List.map_nil, List.append_nil]
    simp only [aircheckref15_Spans.l0]
    by_cases hc : (i : Int) < l.length
    · rw [if_pos hc]
      simp only [aircheckref15_Spans.j1]
      rw [if_neg (by simp; omega)]
    · rw [if_neg hc]
      simp only [aircheckref15_Spans.j1]
      rfl
  | succ d ih =>
    intro k i out h1 h2 hd hk ho
    obtain ⟨k, rfl⟩ : ∃ m, k = m + 2 := ⟨k - 2, by omega⟩
    simp only [aircheckref15_Spans.l0]
    by_cases hc : i < l.length
    · rw [if_pos (by omega)]
      simp only [aircheckref15_Spans.j1]
      have hx := hw _ (List.getElem_mem hc)
      have q0 := pickP_in (a := (l[i]).f0) he
      have q1 := pickP_in (a := (l[i]).f1) (n := e - pickP (l[i]).f0 e) (by omega)
      rw [if_pos (by simp; omega), if_pos (by omega), if_pos (by omega), rd29 hc, rpick_f (I64.of hx.1) he, Option.bind_some, wrap_id (x := e - _) (by omega) (by omega), rpick_f (I64.of hx.2.1) (by omega), Option.bind_some, rpick_f (I64.of hx.2.2) (by omega), Option.bind_some, if_pos (by omega),
        wrap_id (x := pickP (l[i]).f0 e + 1) (by omega) (by omega), wrap_id (x := pickP (l[i]).f0 e + 1 + _) (by omega) (by omega), tl_wrap_up hc (by omega), ih k (i + 1) _ (by omega) (by omega) (by omega) (by omega) (by simp; omega)]
      have e1 : (l.take 20).drop i = l[i] :: (l.take 20).drop (i + 1) := by
        rw [List.drop_eq_getElem_cons (by simp; omega)]
        simp
      rw [e1, List.map_cons]
      simp [span1]
    · rw [if_neg (by omega)]
      simp only [aircheckref15_Spans.j1]
      have : (l.take 20).drop i = [] := List.drop_eq_nil_of_le (by simp; omega)
      rw [this]
      simp
theorem spans_f {e : Int} (he : 0 < e) (he2 : e ≤ 10000000) (l : List S127) (hl : l.length ≤ 9223372036854775806) (hw : ∀ x ∈ l, Q127 x) {k : Nat} (hk : 42 ≤ k) : aircheckref15_Spans.f k e l = some (spansP e l) := by
  have h := spans_l0 he he2 l hl hw 20 k 0 [] (by omega) (by omega) (by omega) (by omega) (by simp)
  simpa [aircheckref15_Spans.f, spansP] using h
theorem valid_tl {l : List S74} {e : Int} (h : Tl l e) (hl : l.length ≤ 200) {k : Nat} (hk : l.length < k) : timeline_Valid.f k l = some true := by
  rw [tl_valid_f l (by omega) hk, (validB_iff l).2 ⟨⟨e, h⟩, hl⟩]
theorem end_tl {l : List S74} {e : Int} (h : Tl l e) (hl : l.length ≤ 200) {k : Nat} (hk : l.length < k) : timeline_End.f k l = some e := by
  unfold timeline_End.f
  rw [valid_tl h hl hk, Option.bind_some, if_pos rfl, tl_end_f l (by omega), Option.bind_some, tend_cont h.cont]
theorem atP_tl {l : List S74} {e t : Int} (h : Tl l e) (h0 : 0 ≤ t) (h1 : t < e) (he : e ≤ 10000000) : ∃ o, own l t = some o ∧ tl_atP l t = (o, 0) := by
  unfold tl_atP
  rw [wrap_id (by omega) (by omega)]
  have c := clip_cont (lo := t) (hi := t + 1) h.cont (by omega) (by omega) (by omega)
  have o := own_clip t (t + 1) t l
  rw [if_pos (by omega)] at o
  have c' : Cont (tl_clip l t (t + 1)) t (t + 1) := by
    have e1 : (if 0 < t then t else 0) = t := by split <;> omega
    have e2 : (if t + 1 < e then t + 1 else e) = t + 1 := by split <;> omega
    rw [e1, e2] at c
    exact c
  cases hc : tl_clip l t (t + 1) with
  | nil => rw [hc] at c'; unfold Cont at c'; omega
  | cons s m =>
    rw [hc] at c' o
    simp only [own] at o
    rw [if_pos ⟨by rw [c'.1]; omega, c'.2.1⟩] at o
    exact ⟨s.f2, o.symm, rfl⟩
theorem at_tl {l : List S74} {e t : Int} (h : Tl l e) (hl : l.length ≤ 200) (h0 : 0 ≤ t) (h1 : t < e) (he : e ≤ 10000000) : ∃ o, own l t = some o ∧ timeline_At.f l t = some (o, 0) := by
  obtain ⟨o, ho, ha⟩ := atP_tl h h0 h1 he
  refine ⟨o, ho, ?_⟩
  unfold timeline_At.f
  rw [if_pos ((validB_iff l).2 ⟨⟨e, h⟩, hl⟩), ha]
def paintP (e o : Int) (s : List S74) : List S74 := s.foldl (fun l x => tl_putP l x.f0 x.f1 x.f2) [⟨0, e, o⟩]
def lastOwn (t : Int) (o : Int) (s : List S74) : Int := s.foldl (fun w x => if x.f0 ≤ t ∧ t < x.f1 then x.f2 else w) o
theorem new_tl {e o : Int} (he : 0 < e) (he2 : e ≤ 10000000) (h0 : 0 ≤ o) (h1 : o ≤ 2999) : Tl [⟨0, e, o⟩] e :=
  ⟨⟨rfl, he, rfl⟩, ⟨by simp, trivial⟩, fun s hs => by rw [List.mem_singleton.1 hs]; exact ⟨h0, h1, he2⟩⟩
theorem paint_go {e : Int} : ∀ (s l : List S74) (w : Int → Int), Tl l e → (∀ x ∈ s, Ins e x) → (∀ t, 0 ≤ t → t < e → own l t = some (w t)) →
    Tl (s.foldl (fun l x => tl_putP l x.f0 x.f1 x.f2) l) e ∧ (s.foldl (fun l x => tl_putP l x.f0 x.f1 x.f2) l).length ≤ l.length + 2 * s.length ∧ ∀ t, 0 ≤ t → t < e → own (s.foldl (fun l x => tl_putP l x.f0 x.f1 x.f2) l) t = some (lastOwn t (w t) s)
  | [], l, w, h, _, hw => ⟨h, by simp, fun t h0 h1 => hw t h0 h1⟩
  | x :: s, l, w, h, hs, hw => by
    have hx := hs x (by simp)
    obtain ⟨p1, p2, p3⟩ := put_tl h hx.1 hx.2.1 hx.2.2.1 hx.2.2.2.1 hx.2.2.2.2
    obtain ⟨q1, q2, q3⟩ := paint_go s _ (fun t => if x.f0 ≤ t ∧ t < x.f1 then x.f2 else w t) p1 (fun y hy => hs y (by simp [hy])) (fun t h0 h1 => by
      rw [p2]
      split
      · rfl
      · exact hw t h0 h1)
    exact ⟨q1, by simp only [List.foldl_cons, List.length_cons] at q2 ⊢; omega, q3⟩
theorem paint_tl {e o : Int} (he : 0 < e) (he2 : e ≤ 10000000) (h0 : 0 ≤ o) (h1 : o ≤ 2999) {s : List S74} (hs : ∀ x ∈ s, Ins e x) :
    Tl (paintP e o s) e ∧ (paintP e o s).length ≤ 1 + 2 * s.length ∧ ∀ t, 0 ≤ t → t < e → own (paintP e o s) t = some (lastOwn t o s) :=
  paint_go s _ (fun _ => o) (new_tl he he2 h0 h1) hs (fun t g0 g1 => by simp only [own]; rw [if_pos ⟨g0, g1⟩])
def raddP (l : List S74) (s : S74) : List S74 := if s.f0 < s.f1 then tl_addS l s else l
theorem radd_f (l : List S74) (a b c : Int) (hl : l.length < 5864062014805) : aircheckref15_add.f l a b c = some (raddP l ⟨a, b, c⟩) := by
  unfold aircheckref15_add.f raddP
  by_cases h1 : a ≥ b
  · rw [if_pos h1, if_neg (by simp; omega)]
  · have hR : (if (⟨a, b, c⟩ : S74).f0 < (⟨a, b, c⟩ : S74).f1 then tl_addS l ⟨a, b, c⟩ else l) = tl_addS l ⟨a, b, c⟩ := if_pos (by show a < b; omega)
    rw [if_neg h1, hR]
    clear hR
    rcases List.eq_nil_or_concat l with rfl | ⟨ys, z, rfl⟩
    · rfl
    · rw [List.concat_eq_append] at hl ⊢
      have hlen : (ys ++ [z]).length = ys.length + 1 := by simp
      have hw : wrap64 (((ys ++ [z]).length : Int) - 1) = (ys.length : Int) := by rw [hlen, wrap_id (by omega) (by omega)]; omega
      have hrd : rd_T74 (ys ++ [z]) (ys.length : Int) = z := by simp [rd_T74]
      rw [if_pos (by rw [hlen]; omega), hw, if_pos (by omega), if_pos (by rw [hlen]; omega), hrd, tl_addS_snoc]
      by_cases h2 : z.f2 = c
      · rw [if_pos h2, if_pos h2]
        simp
      · rw [if_neg h2, if_neg h2, if_pos hl]
theorem raddP_len (l : List S74) (s : S74) : (raddP l s).length ≤ l.length + 1 := by
  unfold raddP
  split
  · exact tl_addS_len l s
  · omega
theorem rpart_step (z : List S74) (x : S74) (lo hi : Int) (l : List S74) : tl_addAll z (tl_clip (x :: l) lo hi) = tl_addAll (raddP z (tl_clip1 x lo hi)) (tl_clip l lo hi) := by
  rw [clip_cons, addAll_app]
  unfold raddP
  split <;> rfl
theorem rpart_l0 (l : List S74) (hl : l.length ≤ 9223372036854775807) (lo hi : Int) (d : Nat) : ∀ (k i : Nat) (out : List S74), i + d = l.length → d < k → out.length + d < 5864062014805 →
    aircheckref15_part.l0 k out l lo hi (i : Int) = some (tl_addAll out (tl_clip (l.drop i) lo hi)) := by
  induction d with
  | zero =>
    intro k i out hi' hk hn
    obtain ⟨k, rfl⟩ : ∃ m, k = m + 1 := ⟨k - 1, by omega⟩
    simp only [aircheckref15_part.l0]
    rw [if_neg (by omega), List.drop_eq_nil_of_le (by omega)]
    rfl
  | succ d ih =>
    intro k i out hi' hk hn
    obtain ⟨k, rfl⟩ : ∃ m, k = m + 1 := ⟨k - 1, by omega⟩
    have hlt : i < l.length := by omega
    simp only [aircheckref15_part.l0]
    rw [if_pos (by omega), if_pos (by omega), rd25 hlt, radd_f _ _ _ _ (by omega), Option.bind_some, tl_wrap_up hlt hl, ih k (i + 1) _ (by omega) (by omega) (by have := raddP_len out ⟨mx lo (l[i]).f0, mn hi (l[i]).f1, (l[i]).f2⟩; omega), List.drop_eq_getElem_cons hlt, rpart_step]
    have e : (⟨mx lo (l[i]).f0, mn hi (l[i]).f1, (l[i]).f2⟩ : S74) = tl_clip1 l[i] lo hi := by
      unfold tl_clip1 mx mn
      congr 1
      · split <;> split <;> omega
      · split <;> split <;> omega
    rw [e]
theorem rpart_f (out l : List S74) (lo hi : Int) {k : Nat} (hk : l.length < k) (hn : out.length + l.length < 5864062014805) : aircheckref15_part.f k out l lo hi = some (tl_addAll out (tl_clip l lo hi)) :=
  rpart_l0 l (by omega) lo hi l.length k 0 out (by omega) hk hn
theorem rend_f (l : List S74) (h : l.length ≤ 9223372036854775807) : aircheckref15_end.f l = some (tl_tend l) := by
  unfold aircheckref15_end.f
  rcases List.eq_nil_or_concat l with rfl | ⟨ys, z, rfl⟩
  · rfl
  · rw [List.concat_eq_append] at h ⊢
    have hlen : (ys ++ [z]).length = ys.length + 1 := by simp
    have hw : wrap64 (((ys ++ [z]).length : Int) - 1) = (ys.length : Int) := by rw [hlen, wrap_id (by omega) (by omega)]; omega
    have hrd : rd_T74 (ys ++ [z]) (ys.length : Int) = z := by simp [rd_T74]
    rw [if_neg (by rw [hlen]; omega), hw, if_pos (by omega), if_pos (by rw [hlen]; omega), hrd]
    simp [tl_tend]
theorem rvalid_l0 (l : List S74) (hn : l.length ≤ 9223372036854775807) (d : Nat) : ∀ (k i : Nat) (t o : Int), i + d = l.length → d < k → (0 < i → ∃ h : i - 1 < l.length, o = (l[i - 1]).f2) → (i = 0 → o = -1) →
    aircheckref15_Valid.l0 k l t (i : Int) = some (tl_validF (l.drop i) t o) := by
  induction d with
  | zero =>
    intro k i t o hi hk _ _
    obtain ⟨k, rfl⟩ : ∃ m, k = m + 1 := ⟨k - 1, by omega⟩
    simp only [aircheckref15_Valid.l0]
    rw [if_neg (by omega), List.drop_eq_nil_of_le (by omega)]
    rfl
  | succ d ih =>
    intro k i t o hi hk ho ho2
    obtain ⟨k, rfl⟩ : ∃ m, k = m + 1 := ⟨k - 1, by omega⟩
    have hlt : i < l.length := by omega
    simp only [aircheckref15_Valid.l0]
    rw [if_pos (by omega), if_pos (by omega), rd25 hlt, List.drop_eq_getElem_cons hlt, tl_wrap_up hlt hn]
    have ih' := ih k (i + 1) (l[i]).f1 (l[i]).f2 (by omega) (by omega) (fun _ => ⟨by omega, rfl⟩) (by omega)
    simp only [tl_validF]
    by_cases c1 : (l[i]).f0 = t
    · by_cases c2 : (l[i]).f1 ≤ t
      · simp [c1, c2]; omega
      · by_cases c3 : (l[i]).f1 > 10000000
        · rw [if_pos c1, if_neg c2, if_pos c3]; simp; omega
        · by_cases c4 : (l[i]).f2 < 0
          · rw [if_pos c1, if_neg c2, if_neg c3, if_pos c4]; simp; omega
          · by_cases c5 : (l[i]).f2 > 2999
            · rw [if_pos c1, if_neg c2, if_neg c3, if_neg c4, if_pos c5]; simp; omega
            · rw [if_pos c1, if_neg c2, if_neg c3, if_neg c4, if_neg c5]
              by_cases c6 : i = 0
              · subst c6
                rw [if_neg (by omega), ih', ho2 rfl]
                have : ¬ (l[0]).f2 = -1 := by omega
                simp [c1, this]; omega
              · obtain ⟨hp, ho⟩ := ho (by omega)
                have hw : wrap64 ((i : Int) - 1) = ((i - 1 : Nat) : Int) := tl_wrap_dec (by omega) (by omega)
                rw [if_pos (by omega), hw, if_pos (by omega), if_pos (by omega), rd25 hp, ← ho]
                by_cases c7 : (l[i]).f2 = o
                · simp [c7]
                · rw [if_neg c7, ih']
                  simp [c1, c7]; omega
    · rw [if_neg c1]; simp [c1]
theorem rvalid_f (l : List S74) (hn : l.length ≤ 9223372036854775807) {k : Nat} (hk : l.length < k) : aircheckref15_Valid.f k l = some (tl_validB l) := by
  unfold aircheckref15_Valid.f tl_validB
  by_cases h : (l.length : Int) > 200
  · rw [if_pos h]
    have : ¬ l.length ≤ 200 := by omega
    simp [this]
  · rw [if_neg h]
    have h0 := rvalid_l0 l hn l.length k 0 0 (-1) (by omega) hk (by omega) (by omega)
    have : l.length ≤ 200 := by omega
    simp only [List.drop_zero] at h0
    simp [this]
    exact h0
theorem rput_f (l : List S74) (a b c : Int) (hl : l.length < 1000000000000) {k : Nat} (hk : l.length + 1 < k) : aircheckref15_Put.f k l a b c = timeline_Put.f l a b c := by
  have e1 := tl_addAll_clip_len l [] 0 a
  simp at e1
  have e2 := raddP_len (tl_addAll [] (tl_clip l 0 a)) ⟨a, b, c⟩
  unfold aircheckref15_Put.f timeline_Put.f
  rw [rvalid_f l (by omega) (by omega), Option.bind_some, rend_f l (by omega), rpart_f _ _ _ _ (by omega) (by simp; omega)]
  simp only [Option.bind_some]
  by_cases h : tl_validB l = true
  · rw [if_pos h]
    by_cases h1 : a < 0 ∨ a ≥ b ∨ b > tl_tend l ∨ c < 0 ∨ c > 2999
    · rw [if_pos h1, if_neg (by simp [tl_insideB, tl_ownerB]; omega)]
    · have hab : (⟨a, b, c⟩ : S74).f0 < (⟨a, b, c⟩ : S74).f1 := by show a < b; omega
      have hP : tl_addAll (raddP (tl_addAll [] (tl_clip l 0 a)) ⟨a, b, c⟩) (tl_clip l b (tl_tend l)) = tl_putP l a b c := by
        unfold tl_putP raddP
        rw [if_pos hab]
      have hg : (tl_validB l && tl_insideB l a b && tl_ownerB c) = true := by
        simp [h, tl_insideB, tl_ownerB]
        omega
      rw [if_neg h1, radd_f _ _ _ _ (by omega), Option.bind_some, rpart_f _ _ _ _ (by omega) (by omega), Option.bind_some, hP, if_pos hg]
      unfold tl_doneF
      split <;> rfl
  · rw [if_neg h, if_neg (by simp [h])]
theorem rnew_f {e o : Int} (he : 0 < e) (he2 : e ≤ 10000000) (h0 : 0 ≤ o) (h1 : o ≤ 2999) : aircheckref15_New.f e o = some ([⟨0, e, o⟩], 0) := by
  unfold aircheckref15_New.f
  rw [if_neg (by omega), if_neg (by omega), if_neg (by omega), if_neg (by omega), radd_f _ _ _ _ (by simp), Option.bind_some]
  unfold raddP
  rw [if_pos (by simpa using he)]
  rfl
theorem rpaint_l0 {e : Int} (s : List S74) (hs : ∀ x ∈ s, Ins e x) (hl : s.length ≤ 90) (d : Nat) : ∀ (k i : Nat) (l : List S74), i + d = s.length → d + 250 < k → Tl l e → l.length ≤ 1 + 2 * i →
    aircheckref15_Paint.l0 k s l 0 (i : Int) = some ((s.drop i).foldl (fun l x => tl_putP l x.f0 x.f1 x.f2) l, 0) := by
  induction d with
  | zero =>
    intro k i l hi hk h hlen
    obtain ⟨k, rfl⟩ : ∃ m, k = m + 1 := ⟨k - 1, by omega⟩
    simp only [aircheckref15_Paint.l0]
    rw [if_neg (by omega), List.drop_eq_nil_of_le (by omega)]
    rfl
  | succ d ih =>
    intro k i l hi hk h hlen
    obtain ⟨k, rfl⟩ : ∃ m, k = m + 1 := ⟨k - 1, by omega⟩
    have hlt : i < s.length := by omega
    have hx := hs _ (List.getElem_mem hlt)
    obtain ⟨p1, p2, p3⟩ := put_tl h hx.1 hx.2.1 hx.2.2.1 hx.2.2.2.1 hx.2.2.2.2
    simp only [aircheckref15_Paint.l0]
    rw [if_pos (by omega), if_true, if_pos (by omega), rd25 hlt, rput_f _ _ _ _ (by omega) (by omega), put_f h (by omega) hx.1 hx.2.1 hx.2.2.1 hx.2.2.2.1 hx.2.2.2.2, Option.bind_some, tl_wrap_up hlt (by omega), ih k (i + 1) _ (by omega) (by omega) p1 (by omega), List.drop_eq_getElem_cons hlt]
    rfl
theorem rpaint_f {e o : Int} (he : 0 < e) (he2 : e ≤ 10000000) (h0 : 0 ≤ o) (h1 : o ≤ 2999) {s : List S74} (hs : ∀ x ∈ s, Ins e x) (hl : s.length ≤ 90) {k : Nat} (hk : s.length + 250 < k) : aircheckref15_Paint.f k e o s = some (paintP e o s, 0) := by
  unfold aircheckref15_Paint.f
  rw [rnew_f he he2 h0 h1, Option.bind_some]
  exact rpaint_l0 s hs hl s.length k 0 _ (by omega) (by omega) (new_tl he he2 h0 h1) (by simp)
def endP (n : Int) : Int := 1 + pickP n 400
theorem endP_in (n : Int) : 0 < endP n ∧ endP n ≤ 400 := by
  have := pickP_in (a := n) (n := 400) (by omega)
  unfold endP; omega
def madeP (n : Int) (x : List S127) : List S74 := paintP (endP n) 0 (spansP (endP n) x)
theorem made_f {n : Int} (hn : I64 n) (x : List S127) (hl : x.length ≤ 9223372036854775806) (hw : ∀ y ∈ x, Q127 y) {k : Nat} (hk : 300 < k) : aircheckref15_Made.f k n x = some (madeP n x) := by
  have h := endP_in n
  have hi := spans_in (e := endP n) (by omega) x
  unfold aircheckref15_Made.f
  rw [rpick_f hn (by omega), Option.bind_some, wrap_id (x := 1 + pickP n 400) (by unfold endP at h; omega) (by unfold endP at h; omega)]
  rw [show 1 + pickP n 400 = endP n from rfl, spans_f (by omega) (by omega) x hl hw (by omega), Option.bind_some, rpaint_f (by omega) (by omega) (by omega) (by omega) (fun y hy => (hi.1 y hy).1) (by omega) (by omega), Option.bind_some]
  rfl
theorem lastOwn_in {m : Int} (t : Int) : ∀ (s : List S74) (o : Int), (∀ x ∈ s, 0 ≤ x.f2 ∧ x.f2 ≤ m) → 0 ≤ o → o ≤ m → 0 ≤ lastOwn t o s ∧ lastOwn t o s ≤ m
  | [], o, _, h0, h1 => ⟨h0, h1⟩
  | x :: s, o, h, h0, h1 => by
    unfold lastOwn
    simp only [List.foldl_cons]
    have hx := h x (by simp)
    exact lastOwn_in t s _ (fun y hy => h y (by simp [hy])) (by split <;> omega) (by split <;> omega)
/-- Made: a valid timeline with the end, at most 41 spans, owners 0 to 7. -/
theorem made_tl (n : Int) (x : List S127) : Tl (madeP n x) (endP n) ∧ (madeP n x).length ≤ 41 ∧ ∀ t o, own (madeP n x) t = some o → 0 ≤ o ∧ o ≤ 7 := by
  have h := endP_in n
  have hi := spans_in (e := endP n) (by omega) x
  obtain ⟨q1, q2, q3⟩ := paint_tl (e := endP n) (o := 0) (by omega) (by omega) (by omega) (by omega) (s := spansP (endP n) x) (fun y hy => (hi.1 y hy).1)
  refine ⟨q1, by show (paintP _ _ _).length ≤ 41; omega, fun t o ho => ?_⟩
  by_cases ht : 0 ≤ t ∧ t < endP n
  · have := q3 t ht.1 ht.2
    have e : own (madeP n x) t = some (lastOwn t 0 (spansP (endP n) x)) := this
    rw [e] at ho
    obtain rfl := Option.some.inj ho
    exact lastOwn_in t _ 0 (fun y hy => ⟨(hi.1 y hy).1.2.2.2.1, (hi.1 y hy).2⟩) (by omega) (by omega)
  · have : own (madeP n x) t = none := own_out q1.cont (by omega)
    rw [this] at ho
    cases ho
end Go.Proofs.YtglcdgalimgkeaaDoor.PJB
