/- The plain theory of timelines; no condition. -/
import Derived.Test.YtbhngbjopfjacaaPS15x10
import Derived.Test.YtbhngbjopfjacaaPS15x12
import Derived.Test.YtbhngbjopfjacaaPS15x16
import Derived.Test.YtbhngbjopfjacaaPS15x17
import Derived.Test.YtbhngbjopfjacaaPS15x3
import Derived.Test.YtbhngbjopfjacaaPS15x4
import Derived.Test.YtbhngbjopfjacaaPS15x5
import Derived.Test.YtbhngbjopfjacaaPS15x6
import Derived.Test.YtbhngbjopfjacaaPS15x7
import Derived.Test.YtbhngbjopfjacaaPS15x8
import Derived.Test.YtbhngbjopfjacaaPS15x9
import Derived.OpenShut
namespace Go.Proofs.Ytbhngbjopfjacaa.PS15
open Go.RowKit Go.Proofs.YtbhngbjopfjacaaW.PrintWords Go.Proofs.YtbhngbjopfjacaaW.PrintLast Go.Proofs.YtbhngbjopfjacaaW.PrintMore
def Evl {α : Type} (g : Nat → Option α) (r : α) : Prop := ∃ K, ∀ k, K ≤ k → g k = some r
theorem Evl.pure {α : Type} (r : α) : Evl (fun _ => some r) r := ⟨0, fun _ _ => rfl⟩
theorem Evl.bind {α β : Type} {g : Nat → Option α} {a : α} {h : Nat → α → Option β} {r : β} (h1 : Evl g a) (h2 : Evl (fun k => h k a) r) : Evl (fun k => (g k).bind (h k)) r := by
  obtain ⟨K1, h1⟩ := h1
  obtain ⟨K2, h2⟩ := h2
  exact ⟨max K1 K2, fun k hk => by show (g k).bind (h k) = some r; rw [h1 k (by omega)]; exact h2 k (by omega)⟩
theorem Evl.succ {α : Type} {g : Nat → Option α} {r : α} (h : Evl (fun k => g (k + 1)) r) : Evl g r := by
  obtain ⟨K, h⟩ := h
  exact ⟨K + 1, fun k hk => by obtain ⟨m, rfl⟩ : ∃ m, k = m + 1 := ⟨k - 1, by omega⟩; exact h m (by omega)⟩
theorem Evl.get {α : Type} {g : Nat → Option α} {r : α} (h : Evl g r) : ∃ k, g k = some r := by
  obtain ⟨K, h⟩ := h
  exact ⟨K, h K (Nat.le_refl _)⟩
theorem wrap_id {x : Int} (h1 : -9223372036854775808 ≤ x) (h2 : x ≤ 9223372036854775807) : wrap64 x = x := by
  unfold wrap64; omega
def Cont : List S25 → Int → Int → Prop
  | [], a, b => a = b
  | s :: l, a, b => s.f0 = a ∧ a < s.f1 ∧ Cont l s.f1 b
theorem Cont.le : ∀ {l : List S25} {a b : Int}, Cont l a b → a ≤ b
  | [], _, _, h => by unfold Cont at h; omega
  | s :: l, a, b, h => by have := Cont.le h.2.2; have := h.2.1; omega
theorem Cont.append : ∀ {l m : List S25} {a b c : Int}, Cont l a b → Cont m b c → Cont (l ++ m) a c
  | [], m, a, b, c, h, k => by unfold Cont at h; subst h; exact k
  | s :: l, m, a, b, c, h, k => ⟨h.1, h.2.1, Cont.append h.2.2 k⟩
theorem Cont.split : ∀ {l m : List S25} {a c : Int}, Cont (l ++ m) a c → ∃ b, Cont l a b ∧ Cont m b c
  | [], m, a, c, h => ⟨a, rfl, h⟩
  | s :: l, m, a, c, h => by
    obtain ⟨b, h1, h2⟩ := Cont.split (l := l) h.2.2
    exact ⟨b, ⟨h.1, h.2.1, h1⟩, h2⟩
def own : List S25 → Int → Option Int
  | [], _ => none
  | s :: l, t => if s.f0 ≤ t ∧ t < s.f1 then some s.f2 else own l t
theorem own_append : ∀ (l m : List S25) (t : Int), own (l ++ m) t = (own l t).or (own m t)
  | [], m, t => by simp [own]
  | s :: l, m, t => by
    simp only [List.cons_append, own]
    split
    · simp
    · exact own_append l m t
theorem own_out : ∀ {l : List S25} {a b t : Int}, Cont l a b → (t < a ∨ b ≤ t) → own l t = none
  | [], _, _, _, _, _ => rfl
  | s :: l, a, b, t, h, ht => by
    have h1 := h.1
    have h2 := h.2.1
    have h3 := h.2.2.le
    simp only [own]
    rw [if_neg (by omega)]
    exact own_out h.2.2 (by omega)
theorem own_in : ∀ {l : List S25} {a b t : Int}, Cont l a b → a ≤ t → t < b → ∃ o, own l t = some o
  | [], a, b, t, h, h1, h2 => by unfold Cont at h; omega
  | s :: l, a, b, t, h, h1, h2 => by
    simp only [own]
    by_cases hc : s.f0 ≤ t ∧ t < s.f1
    · exact ⟨_, by rw [if_pos hc]⟩
    · rw [if_neg hc]
      have h3 := h.1
      exact own_in h.2.2 (by omega) h2
/-- No two neighbours have one owner; o: the owner ahead of the first. -/
def Can : Option Int → List S25 → Prop
  | _, [] => True
  | o, s :: l => some s.f2 ≠ o ∧ Can (some s.f2) l
def lastO (o : Option Int) (l : List S25) : Option Int := match l.getLast? with
  | none => o
  | some s => some s.f2
theorem Can.append : ∀ {l m : List S25} {o : Option Int}, Can o (l ++ m) ↔ Can o l ∧ Can (lastO o l) m
  | [], m, o => by simp [Can, lastO]
  | s :: l, m, o => by
    simp only [List.cons_append, Can]
    rw [Can.append (l := l), and_assoc]
    have : lastO (some s.f2) l = lastO o (s :: l) := by
      unfold lastO
      cases l with
      | nil => rfl
      | cons x l => rw [List.getLast?_cons_cons, List.getLast?_cons]
    rw [this]
def Good (s : S25) : Prop := 0 ≤ s.f2 ∧ s.f2 ≤ 2999 ∧ s.f1 ≤ 10000000
theorem validF_iff : ∀ (l : List S25) (a : Int) (o : Int), tl_validF l a o = true ↔ (∃ b, Cont l a b) ∧ Can (some o) l ∧ ∀ s ∈ l, Good s
  | [], a, o => by simp [tl_validF, Cont, Can]
  | s :: l, a, o => by
    simp only [tl_validF, Bool.and_eq_true, decide_eq_true_eq, Bool.not_eq_true', decide_eq_false_iff_not, validF_iff l]
    constructor
    · rintro ⟨⟨⟨⟨⟨⟨h1, h2⟩, h3⟩, h4⟩, h5⟩, h6⟩, ⟨b, hb⟩, hc, hg⟩
      exact ⟨⟨b, h1, h2, hb⟩, ⟨by simpa using h6, hc⟩, by
        intro x hx
        rcases List.mem_cons.1 hx with rfl | hx
        · exact ⟨h4, h5, h3⟩
        · exact hg x hx⟩
    · rintro ⟨⟨b, h1, h2, hb⟩, ⟨h6, hc⟩, hg⟩
      obtain ⟨h4, h5, h3⟩ := hg s (by simp)
      exact ⟨⟨⟨⟨⟨⟨h1, h2⟩, h3⟩, h4⟩, h5⟩, by simpa using h6⟩, ⟨b, hb⟩, hc, fun x hx => hg x (by simp [hx])⟩
theorem tend_of {l : List S25} {b : Int} : ∀ {a : Int}, Cont l a b → l ≠ [] → tl_tend l = b := by
  induction l with
  | nil => intro a h hn; exact absurd rfl hn
  | cons s l ih =>
    intro a h _
    cases l with
    | nil => have := h.2.2; unfold Cont at this; simpa [tl_tend] using this
    | cons x l =>
      have h1 := ih h.2.2 (by simp)
      have h2 : tl_tend (s :: x :: l) = tl_tend (x :: l) := by unfold tl_tend; simp
      rw [h2, h1]
theorem tend_cont {l : List S25} {b : Int} (h : Cont l 0 b) : tl_tend l = b := by
  by_cases hn : l = []
  · subst hn; unfold Cont at h; subst h; rfl
  · exact tend_of h hn
theorem Can.free : ∀ {l : List S25} {o : Option Int}, Can o l → Can none l
  | [], _, _ => trivial
  | s :: l, _, h => ⟨by simp, h.2⟩
theorem Can.neg {l : List S25} (h : Can none l) (hg : ∀ s ∈ l, Good s) : Can (some (-1)) l := by
  cases l with
  | nil => trivial
  | cons s l => exact ⟨by have := (hg s (by simp)).1; simp; omega, h.2⟩
/-- A valid timeline. -/
structure Tl (l : List S25) (e : Int) : Prop where
  cont : Cont l 0 e
  can : Can none l
  good : ∀ s ∈ l, Good s
theorem validB_iff (l : List S25) : tl_validB l = true ↔ (∃ e, Tl l e) ∧ l.length ≤ 200 := by
  unfold tl_validB
  rw [Bool.and_eq_true, validF_iff, decide_eq_true_eq]
  constructor
  · rintro ⟨⟨⟨b, hb⟩, hc, hg⟩, hl⟩
    exact ⟨⟨b, hb, hc.free, hg⟩, hl⟩
  · rintro ⟨⟨e, h⟩, hl⟩
    exact ⟨⟨⟨e, h.cont⟩, h.can.neg h.good, h.good⟩, hl⟩
theorem addS_nil (s : S25) : tl_addS [] s = [s] := rfl
theorem addS_cont {xs : List S25} {s : S25} {a b : Int} (h : Cont xs a b) (h0 : s.f0 = b) (h1 : b < s.f1) : Cont (tl_addS xs s) a s.f1 := by
  rcases List.eq_nil_or_concat xs with rfl | ⟨ys, z, rfl⟩
  · unfold Cont at h; subst h
    exact ⟨h0, h1, rfl⟩
  · rw [List.concat_eq_append] at h ⊢
    rw [tl_addS_snoc]
    obtain ⟨c, hc, hz⟩ := h.split
    have hz3 : z.f1 = b := hz.2.2
    split
    · exact hc.append ⟨hz.1, by show c < s.f1; have := hz.2.1; omega, rfl⟩
    · exact h.append ⟨h0, h1, rfl⟩
theorem addS_own {xs : List S25} {s : S25} {a b : Int} (h : Cont xs a b) (h0 : s.f0 = b) (h1 : b < s.f1) (t : Int) : own (tl_addS xs s) t = own (xs ++ [s]) t := by
  rcases List.eq_nil_or_concat xs with rfl | ⟨ys, z, rfl⟩
  · rfl
  · rw [List.concat_eq_append] at h ⊢
    rw [tl_addS_snoc]
    obtain ⟨c, hc, hz⟩ := h.split
    have hz3 : z.f1 = b := hz.2.2
    have hz1 := hz.1
    have hz2 := hz.2.1
    split
    · rename_i ho
      rw [List.append_assoc, own_append, own_append]
      congr 1
      simp only [own, List.cons_append, List.nil_append]
      by_cases c1 : z.f0 ≤ t ∧ t < s.f1
      · rw [if_pos c1]
        by_cases c2 : z.f0 ≤ t ∧ t < z.f1
        · rw [if_pos c2]
        · rw [if_neg c2, if_pos (by omega), ho]
      · rw [if_neg c1, if_neg (by omega), if_neg (by omega)]
    · rfl
theorem lastO_snoc (o : Option Int) (l : List S25) (s : S25) : lastO o (l ++ [s]) = some s.f2 := by simp [lastO]
theorem addS_can {xs : List S25} {s : S25} {o : Option Int} (h : Can o xs) (hs : xs = [] → some s.f2 ≠ o) : Can o (tl_addS xs s) := by
  rcases List.eq_nil_or_concat xs with rfl | ⟨ys, z, rfl⟩
  · exact ⟨hs rfl, trivial⟩
  · rw [List.concat_eq_append] at h ⊢
    rw [tl_addS_snoc]
    split
    · exact Can.append.2 ⟨(Can.append.1 h).1, (Can.append.1 h).2⟩
    · rename_i ho
      exact Can.append.2 ⟨h, by rw [lastO_snoc]; exact ⟨by simp; exact fun e => ho e.symm, trivial⟩⟩
theorem addS_good {xs : List S25} {s : S25} (h : ∀ x ∈ xs, Good x) (hs : Good s) : ∀ x ∈ tl_addS xs s, Good x := by
  rcases List.eq_nil_or_concat xs with rfl | ⟨ys, z, rfl⟩
  · intro x hx; rw [addS_nil] at hx; rw [List.mem_singleton.1 hx]; exact hs
  · rw [List.concat_eq_append] at h ⊢
    rw [tl_addS_snoc]
    split
    · intro x hx
      rcases List.mem_append.1 hx with hx | hx
      · exact h x (by simp [hx])
      · rw [List.mem_singleton.1 hx]
        have hz := h z (by simp)
        exact ⟨hz.1, hz.2.1, hs.2.2⟩
    · intro x hx
      rcases List.mem_append.1 hx with hx | hx
      · exact h x hx
      · rw [List.mem_singleton.1 hx]; exact hs
theorem addAll_cons (zs : List S25) (y : S25) (ys : List S25) : tl_addAll zs (y :: ys) = tl_addAll (tl_addS zs y) ys := rfl
theorem addAll_app (zs ys xs : List S25) : tl_addAll zs (ys ++ xs) = tl_addAll (tl_addAll zs ys) xs := by simp [tl_addAll]
theorem addAll_all : ∀ (ys : List S25) {zs : List S25} {a b c : Int}, Cont zs a b → Cont ys b c → Can none zs → (∀ s ∈ zs, Good s) → (∀ s ∈ ys, Good s) →
    Cont (tl_addAll zs ys) a c ∧ Can none (tl_addAll zs ys) ∧ (∀ s ∈ tl_addAll zs ys, Good s) ∧ ∀ t, own (tl_addAll zs ys) t = own (zs ++ ys) t
  | [], zs, a, b, c, h, k, h1, h2, h3 => by unfold Cont at k; subst k; exact ⟨h, h1, h2, fun t => by simp [tl_addAll]⟩
  | y :: ys, zs, a, b, c, h, k, h1, h2, h3 => by
    rw [addAll_cons]
    obtain ⟨g1, g2, g3, g4⟩ := addAll_all ys (addS_cont h k.1 (by have := k.2.1; omega)) k.2.2 (addS_can h1 (fun _ => by simp)) (addS_good h2 (h3 y (by simp))) (fun s hs => h3 s (by simp [hs]))
    refine ⟨g1, g2, g3, fun t => ?_⟩
    rw [g4, own_append, addS_own h k.1 (by have := k.2.1; omega), ← own_append, List.append_assoc]
    rfl
/-- There is one timeline with given owners. -/
theorem same_of : ∀ {l m : List S25} {a b : Int} {o o' : Option Int}, Cont l a b → Cont m a b → Can o l → Can o' m → (∀ t, a ≤ t → t < b → own l t = own m t) → l = m
  | [], [], _, _, _, _, _, _, _, _, _ => rfl
  | [], y :: m, a, b, _, _, h, k, _, _, _ => by unfold Cont at h; have := k.2.2.le; have := k.2.1; omega
  | x :: l, [], a, b, _, _, h, k, _, _, _ => by unfold Cont at k; have := h.2.2.le; have := h.2.1; omega
  | x :: l, y :: m, a, b, o, o', h, k, hc, kc, he => by
    have hx := h.2.2.le
    have ky := k.2.2.le
    have h1 := h.1
    have h2 := h.2.1
    have k1 := k.1
    have k2 := k.2.1
    have e2 : x.f2 = y.f2 := by
      have := he a (by omega) (by omega)
      simp only [own] at this
      rw [if_pos (by omega), if_pos (by omega)] at this
      exact Option.some.inj this
    have e1 : x.f1 = y.f1 := by
      rcases Int.lt_trichotomy x.f1 y.f1 with hlt | heq | hgt
      · exfalso
        have hq := he x.f1 (by omega) (by omega)
        simp only [own] at hq
        rw [if_neg (by omega), if_pos (by omega)] at hq
        cases l with
        | nil => have h3 : x.f1 = b := h.2.2; omega
        | cons z l =>
          have hz := h.2.2
          simp only [own] at hq
          rw [if_pos ⟨by rw [hz.1]; omega, hz.2.1⟩] at hq
          exact hc.2.1 (by rw [hq, e2])
      · exact heq
      · exfalso
        have hq := he y.f1 (by omega) (by omega)
        simp only [own] at hq
        rw [if_pos (by omega), if_neg (by omega)] at hq
        cases m with
        | nil => have h3 : y.f1 = b := k.2.2; omega
        | cons z m =>
          have hz := k.2.2
          simp only [own] at hq
          rw [if_pos ⟨by rw [hz.1]; omega, hz.2.1⟩] at hq
          exact kc.2.1 (by rw [← hq, e2])
    have exy : x = y := by
      cases x; cases y; simp_all
    subst exy
    rw [same_of (l := l) (m := m) h.2.2 k.2.2 hc.2 kc.2 (fun t t1 t2 => by
      have := he t (by omega) t2
      simp only [own] at this
      rwa [if_neg (by omega), if_neg (by omega)] at this)]
theorem clip_cons (s : S25) (l : List S25) (lo hi : Int) : tl_clip (s :: l) lo hi = (if (tl_clip1 s lo hi).f0 < (tl_clip1 s lo hi).f1 then [tl_clip1 s lo hi] else []) ++ tl_clip l lo hi := by
  unfold tl_clip
  simp only [List.map_cons, List.filter_cons]
  split <;> simp_all
theorem own_clip (lo hi t : Int) : ∀ l : List S25, own (tl_clip l lo hi) t = if lo ≤ t ∧ t < hi then own l t else none
  | [] => by simp [tl_clip, own]
  | s :: l => by
    rw [clip_cons, own_append, own_clip lo hi t l]
    have e : own (if (tl_clip1 s lo hi).f0 < (tl_clip1 s lo hi).f1 then [tl_clip1 s lo hi] else []) t = if lo ≤ t ∧ t < hi ∧ s.f0 ≤ t ∧ t < s.f1 then some s.f2 else none := by
      have h0 : (tl_clip1 s lo hi).f0 = if s.f0 < lo then lo else s.f0 := rfl
      have h1 : (tl_clip1 s lo hi).f1 = if hi < s.f1 then hi else s.f1 := rfl
      have h2 : (tl_clip1 s lo hi).f2 = s.f2 := rfl
      split
      · simp only [own, h2]
        rw [h0, h1]
        by_cases c1 : s.f0 < lo <;> by_cases c2 : hi < s.f1 <;> simp only [c1, c2, if_true, if_false] <;> by_cases c3 : lo ≤ t ∧ t < hi ∧ s.f0 ≤ t ∧ t < s.f1
        all_goals first | rw [if_pos c3, if_pos (by omega)] | rw [if_neg c3, if_neg (by omega)]
      · rename_i hn
        rw [h0, h1] at hn
        simp only [own]
        rw [if_neg]
        intro h
        split at hn <;> split at hn <;> omega
    rw [e]
    simp only [own]
    by_cases c : lo ≤ t ∧ t < hi
    · by_cases d : s.f0 ≤ t ∧ t < s.f1
      · rw [if_pos ⟨c.1, c.2, d⟩, if_pos c, if_pos d, if_pos c]; rfl
      · rw [if_neg (fun h => d h.2.2), if_pos c, if_neg d, if_pos c]; rfl
    · rw [if_neg (fun h => c ⟨h.1, h.2.1⟩), if_neg c, if_neg c]; rfl
theorem clip_none : ∀ {l : List S25} {a b : Int} (lo hi : Int), Cont l a b → hi ≤ a → tl_clip l lo hi = []
  | [], _, _, _, _, _, _ => rfl
  | s :: l, a, b, lo, hi, h, k => by
    rw [clip_cons, clip_none lo hi h.2.2 (by have := h.2.1; omega), List.append_nil, if_neg]
    have h0 : (tl_clip1 s lo hi).f0 = if s.f0 < lo then lo else s.f0 := rfl
    have h1 : (tl_clip1 s lo hi).f1 = if hi < s.f1 then hi else s.f1 := rfl
    rw [h0, h1]
    have := h.1
    have := h.2.1
    split <;> split <;> omega
theorem clip_cont : ∀ {l : List S25} {a b lo hi : Int}, Cont l a b → lo ≤ hi → a ≤ hi → lo ≤ b → Cont (tl_clip l lo hi) (if a < lo then lo else a) (if hi < b then hi else b)
  | [], a, b, lo, hi, h, h1, h2, h3 => by
    unfold Cont at h
    show (if a < lo then lo else a) = (if hi < b then hi else b)
    split <;> split <;> omega
  | s :: l, a, b, lo, hi, h, h1, h2, h3 => by
    have e0 := h.1
    have e1 := h.2.1
    have e2 := h.2.2.le
    have g0 : (tl_clip1 s lo hi).f0 = if s.f0 < lo then lo else s.f0 := rfl
    have g1 : (tl_clip1 s lo hi).f1 = if hi < s.f1 then hi else s.f1 := rfl
    rw [clip_cons]
    by_cases c1 : hi < s.f1
    · rw [clip_none lo hi h.2.2 (by omega), List.append_nil]
      have e3 : (if hi < b then hi else b) = hi := if_pos (by omega)
      rw [e3]
      by_cases c2 : (tl_clip1 s lo hi).f0 < (tl_clip1 s lo hi).f1
      · rw [if_pos c2]
        refine ⟨by rw [g0, e0], ?_, ?_⟩
        · rw [g0, e0] at c2; exact c2
        · show (tl_clip1 s lo hi).f1 = hi
          rw [g1, if_pos c1]
      · rw [if_neg c2]
        show (if a < lo then lo else a) = hi
        rw [g0, g1, if_pos c1, e0] at c2
        split <;> split at c2 <;> omega
    · have ih := clip_cont (lo := lo) (hi := hi) h.2.2 h1 (by omega) h3
      by_cases c2 : (tl_clip1 s lo hi).f0 < (tl_clip1 s lo hi).f1
      · rw [if_pos c2]
        rw [g0, g1, if_neg c1] at c2
        refine ⟨by rw [g0, e0], ?_, ?_⟩
        · rw [g1, if_neg c1, ← e0]; exact c2
        · rw [g1, if_neg c1]
          have : (if s.f1 < lo then lo else s.f1) = s.f1 := if_neg (by split at c2 <;> omega)
          rw [this] at ih
          exact ih
      · rw [if_neg c2, List.nil_append]
        rw [g0, g1, if_neg c1] at c2
        have : (if s.f1 < lo then lo else s.f1) = (if a < lo then lo else a) := by split at c2 <;> split <;> split <;> omega
        rw [this] at ih
        exact ih
theorem clip_good {l : List S25} (lo hi : Int) (h : ∀ s ∈ l, Good s) : ∀ s ∈ tl_clip l lo hi, Good s := by
  intro s hs
  unfold tl_clip at hs
  simp only [List.mem_filter, List.mem_map] at hs
  obtain ⟨⟨x, hx, rfl⟩, _⟩ := hs
  obtain ⟨g1, g2, g3⟩ := h x hx
  refine ⟨g1, g2, ?_⟩
  show (if hi < x.f1 then hi else x.f1) ≤ 10000000
  split <;> omega
theorem clip_two : ∀ {l : List S25} {a b : Int} (x y : Int), Cont l a b → x < y → 0 ≤ a → (tl_clip l 0 x).length + (tl_clip l y b).length ≤ l.length + 1
  | [], _, _, _, _, _, _, _ => by simp [tl_clip]
  | s :: l, a, b, x, y, h, k, h0 => by
    have e0 := h.1
    have e1 := h.2.1
    have e2 := h.2.2.le
    rw [clip_cons, clip_cons]
    simp only [List.length_append, List.length_cons]
    have g0 : (tl_clip1 s 0 x).f0 = if s.f0 < 0 then 0 else s.f0 := rfl
    have g1 : (tl_clip1 s 0 x).f1 = if x < s.f1 then x else s.f1 := rfl
    have g2 : (tl_clip1 s y b).f0 = if s.f0 < y then y else s.f0 := rfl
    have g3 : (tl_clip1 s y b).f1 = if b < s.f1 then b else s.f1 := rfl
    by_cases c1 : s.f1 ≤ x
    · have ih := clip_two x y h.2.2 k (by omega)
      have : ¬ (tl_clip1 s y b).f0 < (tl_clip1 s y b).f1 := by rw [g2, g3]; split <;> split <;> omega
      rw [if_neg this]
      split <;> simp <;> omega
    · have e3 : tl_clip l 0 x = [] := clip_none 0 x h.2.2 (by omega)
      have e4 := tl_clip_len l y b
      rw [e3]
      split <;> split <;> simp <;> omega
theorem put_tl {l : List S25} {e a b c : Int} (h : Tl l e) (h0 : 0 ≤ a) (h1 : a < b) (h2 : b ≤ e) (h3 : 0 ≤ c) (h4 : c ≤ 2999) :
    Tl (tl_putP l a b c) e ∧ (∀ t, own (tl_putP l a b c) t = if a ≤ t ∧ t < b then some c else own l t) ∧ (tl_putP l a b c).length ≤ l.length + 2 := by
  have he : tl_tend l = e := tend_cont h.cont
  unfold tl_putP
  rw [he]
  have hgs : Good ⟨a, b, c⟩ := by
    refine ⟨h3, h4, ?_⟩
    show b ≤ 10000000
    have hn : l ≠ [] := by rintro rfl; have := h.cont; unfold Cont at this; omega
    obtain ⟨ys, z, hz⟩ : ∃ ys z, l = ys ++ [z] := by
      rcases List.eq_nil_or_concat l with h | ⟨ys, z, h⟩
      · exact absurd h hn
      · exact ⟨ys, z, by rw [h, List.concat_eq_append]⟩
    have hg := (h.good z (by rw [hz]; simp)).2.2
    have := tend_of h.cont hn
    rw [hz] at this
    simp [tl_tend] at this
    omega
  have c1 := clip_cont (lo := 0) (hi := a) h.cont h0 h0 (by omega)
  rw [if_neg (by omega)] at c1
  have c2 := clip_cont (lo := b) (hi := e) h.cont h2 (by omega) h2
  rw [if_pos (by omega), if_neg (by omega)] at c2
  have c1' : Cont (tl_clip l 0 a) 0 a := by
    have : (if a < e then a else e) = a := if_pos (by omega)
    rw [this] at c1
    exact c1
  obtain ⟨p1, p2, p3, p4⟩ := addAll_all (tl_clip l 0 a) (zs := []) (a := 0) (b := 0) rfl c1' trivial (by simp) (clip_good 0 a h.good)
  have q1 := addS_cont (s := ⟨a, b, c⟩) p1 rfl h1
  have q2 : Can none (tl_addS (tl_addAll [] (tl_clip l 0 a)) ⟨a, b, c⟩) := addS_can p2 (fun _ => by simp)
  have q3 := addS_good p3 hgs
  obtain ⟨r1, r2, r3, r4⟩ := addAll_all (tl_clip l b e) q1 c2 q2 q3 (clip_good b e h.good)
  refine ⟨⟨r1, r2, r3⟩, fun t => ?_, ?_⟩
  · rw [r4, own_append, addS_own p1 rfl h1, own_append, p4, List.nil_append, own_clip, own_clip]
    simp only [own]
    by_cases d1 : a ≤ t ∧ t < b
    · rw [if_neg (by omega), if_pos d1, if_pos d1]; rfl
    · rw [if_neg d1, if_neg d1]
      by_cases d2 : 0 ≤ t ∧ t < a
      · rw [if_pos d2, if_neg (by omega)]; cases own l t <;> rfl
      · rw [if_neg d2]
        by_cases d3 : b ≤ t ∧ t < e
        · rw [if_pos d3]; rfl
        · rw [if_neg d3, own_out h.cont (by omega)]; rfl
  · have e1 := tl_addAll_len (tl_clip l b e) (tl_addS (tl_addAll [] (tl_clip l 0 a)) ⟨a, b, c⟩)
    have e2 := tl_addS_len (tl_addAll [] (tl_clip l 0 a)) ⟨a, b, c⟩
    have e3 := tl_addAll_len (tl_clip l 0 a) []
    have e4 := clip_two a b h.cont h1 (Int.le_refl 0)
    simp at e3
    omega
theorem put_f {l : List S25} {e a b c : Int} (h : Tl l e) (hl : l.length ≤ 198) (h0 : 0 ≤ a) (h1 : a < b) (h2 : b ≤ e) (h3 : 0 ≤ c) (h4 : c ≤ 2999) : timeline_Put.f l a b c = some (tl_putP l a b c, 0) := by
  unfold timeline_Put.f
  have hv : tl_validB l = true := (validB_iff l).2 ⟨⟨e, h⟩, by omega⟩
  have hi : tl_insideB l a b = true := by
    unfold tl_insideB
    rw [tend_cont h.cont]
    simp [h0, h1, h2]
  have ho : tl_ownerB c = true := by simp [tl_ownerB, h3, h4]
  rw [if_pos (by rw [hv, hi, ho]; rfl)]
  unfold tl_doneF
  rw [if_neg (by have := (put_tl h h0 h1 h2 h3 h4).2.2; omega)]
def pickP (a n : Int) : Int := if a < 0 then (-(a + 1)) % n else a % n
theorem pickP_in {a n : Int} (hn : 0 < n) : 0 ≤ pickP a n ∧ pickP a n < n := by
  unfold pickP
  split
  · exact ⟨Int.emod_nonneg _ (by omega), Int.emod_lt_of_pos _ hn⟩
  · exact ⟨Int.emod_nonneg _ (by omega), Int.emod_lt_of_pos _ hn⟩
def I64 (a : Int) : Prop := -9223372036854775808 ≤ a ∧ a ≤ 9223372036854775807
theorem I64.of {a : Int} (h : (Lit.int .i64 a).wf = true) : I64 a := bounds_i64 h
theorem pick_f {a n : Int} (ha : I64 a) (hn : 0 < n) : airchecklaw15_pick.f a n = some (pickP a n) := by
  unfold airchecklaw15_pick.f pickP
  obtain ⟨h1, h2⟩ := ha
  by_cases h : a < 0
  · rw [if_pos h, if_pos h, if_neg (by omega), wrap_id (x := a + 1) (by omega) (by omega), wrap_id (by omega) (by omega), Int.tmod_eq_emod_of_nonneg (by omega)]
  · rw [if_neg h, if_neg h, if_neg (by omega), Int.tmod_eq_emod_of_nonneg (by omega)]
theorem rpick_f {a n : Int} (ha : I64 a) (hn : 0 < n) : aircheckref15_pick.f a n = some (pickP a n) := pick_f ha hn
def span1 (e : Int) (x : S29) : S25 := ⟨pickP x.f0 e, pickP x.f0 e + 1 + pickP x.f1 (e - pickP x.f0 e), pickP x.f2 8⟩
def spansP (e : Int) (l : List S29) : List S25 := (l.take 20).map (span1 e)
/-- A span inside the seconds up to e. -/
def Ins (e : Int) (s : S25) : Prop := 0 ≤ s.f0 ∧ s.f0 < s.f1 ∧ s.f1 ≤ e ∧ 0 ≤ s.f2 ∧ s.f2 ≤ 2999
theorem span1_in {e : Int} (he : 0 < e) (x : S29) : Ins e (span1 e x) ∧ (span1 e x).f2 ≤ 7 := by
  have h0 := pickP_in (a := x.f0) he
  have h1 := pickP_in (a := x.f1) (n := e - pickP x.f0 e) (by omega)
  have h2 := pickP_in (a := x.f2) (n := 8) (by omega)
  refine ⟨⟨h0.1, ?_, ?_, h2.1, ?_⟩, ?_⟩
  · show pickP x.f0 e < pickP x.f0 e + 1 + pickP x.f1 (e - pickP x.f0 e); omega
  · show pickP x.f0 e + 1 + pickP x.f1 (e - pickP x.f0 e) ≤ e; omega
  · show pickP x.f2 8 ≤ 2999; omega
  · show pickP x.f2 8 ≤ 7; omega
theorem spans_in {e : Int} (he : 0 < e) (l : List S29) : (∀ s ∈ spansP e l, Ins e s ∧ s.f2 ≤ 7) ∧ (spansP e l).length ≤ 20 := by
  refine ⟨fun s hs => ?_, by simp [spansP]; omega⟩
  obtain ⟨x, _, rfl⟩ := List.mem_map.1 hs
  exact span1_in he x
theorem rd29 {l : List S29} {i : Nat} (h : i < l.length) : rd_T29 l (i : Int) = l[i] := by simp [rd_T29, h]
theorem rd25 {l : List S25} {i : Nat} (h : i < l.length) : rd_T25 l (i : Int) = l[i] := by simp [rd_T25, h]
theorem rd45 {l : List S45} {i : Nat} (h : i < l.length) : rd_T45 l (i : Int) = l[i] := by simp [rd_T45, h]
theorem spans_l0 {e : Int} (he : 0 < e) (he2 : e ≤ 10000000) (l : List S29) (hl : l.length ≤ 9223372036854775806) (hw : ∀ x ∈ l, Q29 x) (d : Nat) : ∀ (k i : Nat) (out : List S25), i ≤ 20 → i ≤ l.length → 20 - i = d → 2 * d + 2 ≤ k → out.length ≤ i →
    aircheckref15_Spans.l0 k e l out (i : Int) = some (out ++ ((l.take 20).drop i).map (span1 e)) := by
  induction d with
  | zero =>
    intro k i out h1 h2 hd hk ho
    obtain ⟨k, rfl⟩ : ∃ m, k = m + 2 := ⟨k - 2, by omega⟩
    have hi : i = 20 := by omega
    have : (l.take 20).drop i = [] := List.drop_eq_nil_of_le (by simp; omega)
    rw [this, List.map_nil, List.append_nil]
    simp only [aircheckref15_Spans.l0]
    by_cases hc : (i : Int) < l.length
    · rw [if_pos hc]
      simp only [aircheckref15_Spans.j1]
      rw [if_neg (by simp; omega)]
    · rw [if_neg hc]
      simp only [aircheckref15_Spans.j1]
      rfl
  | succ d ih =>
    intro k i out h1 h2 hd hk ho
    obtain ⟨k, rfl⟩ : ∃ m, k = m + 2 := ⟨k - 2, by omega⟩
    simp only [aircheckref15_Spans.l0]
    by_cases hc : i < l.length
    · rw [if_pos (by omega)]
      simp only [aircheckref15_Spans.j1]
      have hx := hw _ (List.getElem_mem hc)
      have q0 := pickP_in (a := (l[i]).f0) he
      have q1 := pickP_in (a := (l[i]).f1) (n := e - pickP (l[i]).f0 e) (by omega)
      rw [if_pos (by simp; omega), if_pos (by omega), if_pos (by omega), rd29 hc, rpick_f (I64.of hx.1) he, Option.bind_some, wrap_id (x := e - _) (by omega) (by omega), rpick_f (I64.of hx.2.1) (by omega), Option.bind_some, rpick_f (I64.of hx.2.2) (by omega), Option.bind_some, if_pos (by omega),
        wrap_id (x := pickP (l[i]).f0 e + 1) (by omega) (by omega), wrap_id (x := pickP (l[i]).f0 e + 1 + _) (by omega) (by omega), tl_wrap_up hc (by omega), ih k (i + 1) _ (by omega) (by omega) (by omega) (by omega) (by simp; omega)]
      have e1 : (l.take 20).drop i = l[i] :: (l.take 20).drop (i + 1) := by
        rw [List.drop_eq_getElem_cons (by simp; omega)]
        simp
      rw [e1, List.map_cons]
      simp [span1]
    · rw [if_neg (by omega)]
      simp only [aircheckref15_Spans.j1]
      have : (l.take 20).drop i = [] := List.drop_eq_nil_of_le (by simp; omega)
      rw [this]
      simp
theorem spans_f {e : Int} (he : 0 < e) (he2 : e ≤ 10000000) (l : List S29) (hl : l.length ≤ 9223372036854775806) (hw : ∀ x ∈ l, Q29 x) {k : Nat} (hk : 42 ≤ k) : aircheckref15_Spans.f k e l = some (spansP e l) := by
  have h := spans_l0 he he2 l hl hw 20 k 0 [] (by omega) (by omega) (by omega) (by omega) (by simp)
  simpa [aircheckref15_Spans.f, spansP] using h
theorem valid_tl {l : List S25} {e : Int} (h : Tl l e) (hl : l.length ≤ 200) {k : Nat} (hk : l.length < k) : timeline_Valid.f k l = some true := by
  rw [tl_valid_f l (by omega) hk, (validB_iff l).2 ⟨⟨e, h⟩, hl⟩]
theorem end_tl {l : List S25} {e : Int} (h : Tl l e) (hl : l.length ≤ 200) {k : Nat} (hk : l.length < k) : timeline_End.f k l = some e := by
  unfold timeline_End.f
  rw [valid_tl h hl hk, Option.bind_some, if_pos rfl, tl_end_f l (by omega), Option.bind_some, tend_cont h.cont]
theorem atP_tl {l : List S25} {e t : Int} (h : Tl l e) (h0 : 0 ≤ t) (h1 : t < e) (he : e ≤ 10000000) : ∃ o, own l t = some o ∧ tl_atP l t = (o, 0) := by
  unfold tl_atP
  rw [wrap_id (by omega) (by omega)]
  have c := clip_cont (lo := t) (hi := t + 1) h.cont (by omega) (by omega) (by omega)
  have o := own_clip t (t + 1) t l
  rw [if_pos (by omega)] at o
  have c' : Cont (tl_clip l t (t + 1)) t (t + 1) := by
    have e1 : (if 0 < t then t else 0) = t := by split <;> omega
    have e2 : (if t + 1 < e then t + 1 else e) = t + 1 := by split <;> omega
    rw [e1, e2] at c
    exact c
  cases hc : tl_clip l t (t + 1) with
  | nil => rw [hc] at c'; unfold Cont at c'; omega
  | cons s m =>
    rw [hc] at c' o
    simp only [own] at o
    rw [if_pos ⟨by rw [c'.1]; omega, c'.2.1⟩] at o
    exact ⟨s.f2, o.symm, rfl⟩
theorem at_tl {l : List S25} {e t : Int} (h : Tl l e) (hl : l.length ≤ 200) (h0 : 0 ≤ t) (h1 : t < e) (he : e ≤ 10000000) : ∃ o, own l t = some o ∧ timeline_At.f l t = some (o, 0) := by
  obtain ⟨o, ho, ha⟩ := atP_tl h h0 h1 he
  refine ⟨o, ho, ?_⟩
  unfold timeline_At.f
  rw [if_pos ((validB_iff l).2 ⟨⟨e, h⟩, hl⟩), ha]
def paintP (e o : Int) (s : List S25) : List S25 := s.foldl (fun l x => tl_putP l x.f0 x.f1 x.f2) [⟨0, e, o⟩]
def lastOwn (t : Int) (o : Int) (s : List S25) : Int := s.foldl (fun w x => if x.f0 ≤ t ∧ t < x.f1 then x.f2 else w) o
theorem new_tl {e o : Int} (he : 0 < e) (he2 : e ≤ 10000000) (h0 : 0 ≤ o) (h1 : o ≤ 2999) : Tl [⟨0, e, o⟩] e :=
  ⟨⟨rfl, he, rfl⟩, ⟨by simp, trivial⟩, fun s hs => by rw [List.mem_singleton.1 hs]; exact ⟨h0, h1, he2⟩⟩
theorem paint_go {e : Int} : ∀ (s l : List S25) (w : Int → Int), Tl l e → (∀ x ∈ s, Ins e x) → (∀ t, 0 ≤ t → t < e → own l t = some (w t)) →
    Tl (s.foldl (fun l x => tl_putP l x.f0 x.f1 x.f2) l) e ∧ (s.foldl (fun l x => tl_putP l x.f0 x.f1 x.f2) l).length ≤ l.length + 2 * s.length ∧ ∀ t, 0 ≤ t → t < e → own (s.foldl (fun l x => tl_putP l x.f0 x.f1 x.f2) l) t = some (lastOwn t (w t) s)
  | [], l, w, h, _, hw => ⟨h, by simp, fun t h0 h1 => hw t h0 h1⟩
  | x :: s, l, w, h, hs, hw => by
    have hx := hs x (by simp)
    obtain ⟨p1, p2, p3⟩ := put_tl h hx.1 hx.2.1 hx.2.2.1 hx.2.2.2.1 hx.2.2.2.2
    obtain ⟨q1, q2, q3⟩ := paint_go s _ (fun t => if x.f0 ≤ t ∧ t < x.f1 then x.f2 else w t) p1 (fun y hy => hs y (by simp [hy])) (fun t h0 h1 => by
      rw [p2]
      split
      · rfl
      · exact hw t h0 h1)
    exact ⟨q1, by simp only [List.foldl_cons, List.length_cons] at q2 ⊢; omega, q3⟩
theorem paint_tl {e o : Int} (he : 0 < e) (he2 : e ≤ 10000000) (h0 : 0 ≤ o) (h1 : o ≤ 2999) {s : List S25} (hs : ∀ x ∈ s, Ins e x) :
    Tl (paintP e o s) e ∧ (paintP e o s).length ≤ 1 + 2 * s.length ∧ ∀ t, 0 ≤ t → t < e → own (paintP e o s) t = some (lastOwn t o s) :=
  paint_go s _ (fun _ => o) (new_tl he he2 h0 h1) hs (fun t g0 g1 => by simp only [own]; rw [if_pos ⟨g0, g1⟩])
theorem paint_l0 {e : Int} (s : List S25) (hs : ∀ x ∈ s, Ins e x) (hl : s.length ≤ 90) (d : Nat) : ∀ (k i : Nat) (l : List S25), i + d = s.length → d < k → Tl l e → l.length ≤ 1 + 2 * i →
    timeline_Paint.l0 k l 0 s (s.length : Int) (i : Int) = some ((s.drop i).foldl (fun l x => tl_putP l x.f0 x.f1 x.f2) l, 0) := by
  induction d with
  | zero =>
    intro k i l hi hk h hlen
    obtain ⟨k, rfl⟩ : ∃ m, k = m + 1 := ⟨k - 1, by omega⟩
    simp only [timeline_Paint.l0]
    rw [if_neg (by omega), List.drop_eq_nil_of_le (by omega)]
    rfl
  | succ d ih =>
    intro k i l hi hk h hlen
    obtain ⟨k, rfl⟩ : ∃ m, k = m + 1 := ⟨k - 1, by omega⟩
    have hlt : i < s.length := by omega
    have hx := hs _ (List.getElem_mem hlt)
    obtain ⟨p1, p2, p3⟩ := put_tl h hx.1 hx.2.1 hx.2.2.1 hx.2.2.2.1 hx.2.2.2.2
    simp only [timeline_Paint.l0]
    rw [if_pos (by omega), if_pos (by omega), if_pos (by omega), if_true, rd25 hlt, put_f h (by omega) hx.1 hx.2.1 hx.2.2.1 hx.2.2.2.1 hx.2.2.2.2, Option.bind_some, tl_wrap_up hlt (by omega), ih k (i + 1) _ (by omega) (by omega) p1 (by omega), List.drop_eq_getElem_cons hlt]
    rfl
theorem new_f {e o : Int} (he : 0 < e) (he2 : e ≤ 10000000) (h0 : 0 ≤ o) (h1 : o ≤ 2999) {k : Nat} (hk : 0 < k) : timeline_New.f k e o = some ([⟨0, e, o⟩], 0) := by
  obtain ⟨k, rfl⟩ : ∃ m, k = m + 1 := ⟨k - 1, by omega⟩
  unfold timeline_New.f
  rw [if_neg (by omega), if_neg (by omega), tl_owner_f, Option.bind_some]
  have : tl_ownerB o = true := by simp [tl_ownerB, h0, h1]
  rw [this]
  simp only [timeline_New.j0]
  rw [if_neg (by simp), if_neg (by omega)]
theorem paint_f {e o : Int} (he : 0 < e) (he2 : e ≤ 10000000) (h0 : 0 ≤ o) (h1 : o ≤ 2999) {s : List S25} (hs : ∀ x ∈ s, Ins e x) (hl : s.length ≤ 90) {k : Nat} (hk : s.length + 1 < k) : timeline_Paint.f k e o s = some (paintP e o s, 0) := by
  unfold timeline_Paint.f
  rw [new_f he he2 h0 h1 (by omega), Option.bind_some]
  exact paint_l0 s hs hl s.length k 0 _ (by omega) (by omega) (new_tl he he2 h0 h1) (by simp)
def raddP (l : List S25) (s : S25) : List S25 := if s.f0 < s.f1 then tl_addS l s else l
theorem radd_f (l : List S25) (a b c : Int) (hl : l.length < 5864062014805) : aircheckref15_add.f l a b c = some (raddP l ⟨a, b, c⟩) := by
  unfold aircheckref15_add.f raddP
  by_cases h1 : a ≥ b
  · rw [if_pos h1, if_neg (by simp; omega)]
  · have hR : (if (⟨a, b, c⟩ : S25).f0 < (⟨a, b, c⟩ : S25).f1 then tl_addS l ⟨a, b, c⟩ else l) = tl_addS l ⟨a, b, c⟩ := if_pos (by show a < b; omega)
    rw [if_neg h1, hR]
    clear hR
    rcases List.eq_nil_or_concat l with rfl | ⟨ys, z, rfl⟩
    · rfl
    · rw [List.concat_eq_append] at hl ⊢
      have hlen : (ys ++ [z]).length = ys.length + 1 := by simp
      have hw : wrap64 (((ys ++ [z]).length : Int) - 1) = (ys.length : Int) := by rw [hlen, wrap_id (by omega) (by omega)]; omega
      have hrd : rd_T25 (ys ++ [z]) (ys.length : Int) = z := by simp [rd_T25]
      rw [if_pos (by rw [hlen]; omega), hw, if_pos (by omega), if_pos (by rw [hlen]; omega), hrd, tl_addS_snoc]
      by_cases h2 : z.f2 = c
      · rw [if_pos h2, if_pos h2]
        simp
      · rw [if_neg h2, if_neg h2, if_pos hl]
theorem raddP_len (l : List S25) (s : S25) : (raddP l s).length ≤ l.length + 1 := by
  unfold raddP
  split
  · exact tl_addS_len l s
  · omega
theorem rpart_step (z : List S25) (x : S25) (lo hi : Int) (l : List S25) : tl_addAll z (tl_clip (x :: l) lo hi) = tl_addAll (raddP z (tl_clip1 x lo hi)) (tl_clip l lo hi) := by
  rw [clip_cons, addAll_app]
  unfold raddP
  split <;> rfl
theorem rpart_l0 (l : List S25) (hl : l.length ≤ 9223372036854775807) (lo hi : Int) (d : Nat) : ∀ (k i : Nat) (out : List S25), i + d = l.length → d < k → out.length + d < 5864062014805 →
    aircheckref15_part.l0 k out l lo hi (i : Int) = some (tl_addAll out (tl_clip (l.drop i) lo hi)) := by
  induction d with
  | zero =>
    intro k i out hi' hk hn
    obtain ⟨k, rfl⟩ : ∃ m, k = m + 1 := ⟨k - 1, by omega⟩
    simp only [aircheckref15_part.l0]
    rw [if_neg (by omega), List.drop_eq_nil_of_le (by omega)]
    rfl
  | succ d ih =>
    intro k i out hi' hk hn
    obtain ⟨k, rfl⟩ : ∃ m, k = m + 1 := ⟨k - 1, by omega⟩
    have hlt : i < l.length := by omega
    simp only [aircheckref15_part.l0]
    rw [if_pos (by omega), if_pos (by omega), rd25 hlt, radd_f _ _ _ _ (by omega), Option.bind_some, tl_wrap_up hlt hl, ih k (i + 1) _ (by omega) (by omega) (by have := raddP_len out ⟨mx lo (l[i]).f0, mn hi (l[i]).f1, (l[i]).f2⟩; omega), List.drop_eq_getElem_cons hlt, rpart_step]
    have e : (⟨mx lo (l[i]).f0, mn hi (l[i]).f1, (l[i]).f2⟩ : S25) = tl_clip1 l[i] lo hi := by
      unfold tl_clip1 mx mn
      congr 1
      · split <;> split <;> omega
      · split <;> split <;> omega
    rw [e]
theorem rpart_f (out l : List S25) (lo hi : Int) {k : Nat} (hk : l.length < k) (hn : out.length + l.length < 5864062014805) : aircheckref15_part.f k out l lo hi = some (tl_addAll out (tl_clip l lo hi)) :=
  rpart_l0 l (by omega) lo hi l.length k 0 out (by omega) hk hn
theorem rend_f (l : List S25) (h : l.length ≤ 9223372036854775807) : aircheckref15_end.f l = some (tl_tend l) := by
  unfold aircheckref15_end.f
  rcases List.eq_nil_or_concat l with rfl | ⟨ys, z, rfl⟩
  · rfl
  · rw [List.concat_eq_append] at h ⊢
    have hlen : (ys ++ [z]).length = ys.length + 1 := by simp
    have hw : wrap64 (((ys ++ [z]).length : Int) - 1) = (ys.length : Int) := by rw [hlen, wrap_id (by omega) (by omega)]; omega
    have hrd : rd_T25 (ys ++ [z]) (ys.length : Int) = z := by simp [rd_T25]
    rw [if_neg (by rw [hlen]; omega), hw, if_pos (by omega), if_pos (by rw [hlen]; omega), hrd]
    simp [tl_tend]
theorem rvalid_l0 (l : List S25) (hn : l.length ≤ 9223372036854775807) (d : Nat) : ∀ (k i : Nat) (t o : Int), i + d = l.length → d < k → (0 < i → ∃ h : i - 1 < l.length, o = (l[i - 1]).f2) → (i = 0 → o = -1) →
    aircheckref15_Valid.l0 k l t (i : Int) = some (tl_validF (l.drop i) t o) := by
  induction d with
  | zero =>
    intro k i t o hi hk _ _
    obtain ⟨k, rfl⟩ : ∃ m, k = m + 1 := ⟨k - 1, by omega⟩
    simp only [aircheckref15_Valid.l0]
    rw [if_neg (by omega), List.drop_eq_nil_of_le (by omega)]
    rfl
  | succ d ih =>
    intro k i t o hi hk ho ho2
    obtain ⟨k, rfl⟩ : ∃ m, k = m + 1 := ⟨k - 1, by omega⟩
    have hlt : i < l.length := by omega
    simp only [aircheckref15_Valid.l0]
    rw [if_pos (by omega), if_pos (by omega), rd25 hlt, List.drop_eq_getElem_cons hlt, tl_wrap_up hlt hn]
    have ih' := ih k (i + 1) (l[i]).f1 (l[i]).f2 (by omega) (by omega) (fun _ => ⟨by omega, rfl⟩) (by omega)
    simp only [tl_validF]
    by_cases c1 : (l[i]).f0 = t
    · by_cases c2 : (l[i]).f1 ≤ t
      · simp [c1, c2]; omega
      · by_cases c3 : (l[i]).f1 > 10000000
        · rw [if_pos c1, if_neg c2, if_pos c3]; simp; omega
        · by_cases c4 : (l[i]).f2 < 0
          · rw [if_pos c1, if_neg c2, if_neg c3, if_pos c4]; simp; omega
          · by_cases c5 : (l[i]).f2 > 2999
            · rw [if_pos c1, if_neg c2, if_neg c3, if_neg c4, if_pos c5]; simp; omega
            · rw [if_pos c1, if_neg c2, if_neg c3, if_neg c4, if_neg c5]
              by_cases c6 : i = 0
              · subst c6
                rw [if_neg (by omega), ih', ho2 rfl]
                have : ¬ (l[0]).f2 = -1 := by omega
                simp [c1, this]; omega
              · obtain ⟨hp, ho⟩ := ho (by omega)
                have hw : wrap64 ((i : Int) - 1) = ((i - 1 : Nat) : Int) := tl_wrap_dec (by omega) (by omega)
                rw [if_pos (by omega), hw, if_pos (by omega), if_pos (by omega), rd25 hp, ← ho]
                by_cases c7 : (l[i]).f2 = o
                · simp [c7]
                · rw [if_neg c7, ih']
                  simp [c1, c7]; omega
    · rw [if_neg c1]; simp [c1]
theorem rvalid_f (l : List S25) (hn : l.length ≤ 9223372036854775807) {k : Nat} (hk : l.length < k) : aircheckref15_Valid.f k l = some (tl_validB l) := by
  unfold aircheckref15_Valid.f tl_validB
  by_cases h : (l.length : Int) > 200
  · rw [if_pos h]
    have : ¬ l.length ≤ 200 := by omega
    simp [this]
  · rw [if_neg h]
    have h0 := rvalid_l0 l hn l.length k 0 0 (-1) (by omega) hk (by omega) (by omega)
    have : l.length ≤ 200 := by omega
    simp only [List.drop_zero] at h0
    simp [this]
    exact h0
theorem rput_f (l : List S25) (a b c : Int) (hl : l.length < 1000000000000) {k : Nat} (hk : l.length + 1 < k) : aircheckref15_Put.f k l a b c = timeline_Put.f l a b c := by
  have e1 := tl_addAll_clip_len l [] 0 a
  simp at e1
  have e2 := raddP_len (tl_addAll [] (tl_clip l 0 a)) ⟨a, b, c⟩
  unfold aircheckref15_Put.f timeline_Put.f
  rw [rvalid_f l (by omega) (by omega), Option.bind_some, rend_f l (by omega), rpart_f _ _ _ _ (by omega) (by simp; omega)]
  simp only [Option.bind_some]
  by_cases h : tl_validB l = true
  · rw [if_pos h]
    by_cases h1 : a < 0 ∨ a ≥ b ∨ b > tl_tend l ∨ c < 0 ∨ c > 2999
    · rw [if_pos h1, if_neg (by simp [tl_insideB, tl_ownerB]; omega)]
    · have hab : (⟨a, b, c⟩ : S25).f0 < (⟨a, b, c⟩ : S25).f1 := by show a < b; omega
      have hP : tl_addAll (raddP (tl_addAll [] (tl_clip l 0 a)) ⟨a, b, c⟩) (tl_clip l b (tl_tend l)) = tl_putP l a b c := by
        unfold tl_putP raddP
        rw [if_pos hab]
      have hg : (tl_validB l && tl_insideB l a b && tl_ownerB c) = true := by
        simp [h, tl_insideB, tl_ownerB]
        omega
      rw [if_neg h1, radd_f _ _ _ _ (by omega), Option.bind_some, rpart_f _ _ _ _ (by omega) (by omega), Option.bind_some, hP, if_pos hg]
      unfold tl_doneF
      split <;> rfl
  · rw [if_neg h, if_neg (by simp [h])]
theorem rnew_f {e o : Int} (he : 0 < e) (he2 : e ≤ 10000000) (h0 : 0 ≤ o) (h1 : o ≤ 2999) : aircheckref15_New.f e o = some ([⟨0, e, o⟩], 0) := by
  unfold aircheckref15_New.f
  rw [if_neg (by omega), if_neg (by omega), if_neg (by omega), if_neg (by omega), radd_f _ _ _ _ (by simp), Option.bind_some]
  unfold raddP
  rw [if_pos (by simpa using he)]
  rfl
theorem rpaint_l0 {e : Int} (s : List S25) (hs : ∀ x ∈ s, Ins e x) (hl : s.length ≤ 90) (d : Nat) : ∀ (k i : Nat) (l : List S25), i + d = s.length → d + 250 < k → Tl l e → l.length ≤ 1 + 2 * i →
    aircheckref15_Paint.l0 k s l 0 (i : Int) = some ((s.drop i).foldl (fun l x => tl_putP l x.f0 x.f1 x.f2) l, 0) := by
  induction d with
  | zero =>
    intro k i l hi hk h hlen
    obtain ⟨k, rfl⟩ : ∃ m, k = m + 1 := ⟨k - 1, by omega⟩
    simp only [aircheckref15_Paint.l0]
    rw [if_neg (by omega), List.drop_eq_nil_of_le (by omega)]
    rfl
  | succ d ih =>
    intro k i l hi hk h hlen
    obtain ⟨k, rfl⟩ : ∃ m, k = m + 1 := ⟨k - 1, by omega⟩
    have hlt : i < s.length := by omega
    have hx := hs _ (List.getElem_mem hlt)
    obtain ⟨p1, p2, p3⟩ := put_tl h hx.1 hx.2.1 hx.2.2.1 hx.2.2.2.1 hx.2.2.2.2
    simp only [aircheckref15_Paint.l0]
    rw [if_pos (by omega), if_true, if_pos (by omega), rd25 hlt, rput_f _ _ _ _ (by omega) (by omega), put_f h (by omega) hx.1 hx.2.1 hx.2.2.1 hx.2.2.2.1 hx.2.2.2.2, Option.bind_some, tl_wrap_up hlt (by omega), ih k (i + 1) _ (by omega) (by omega) p1 (by omega), List.drop_eq_getElem_cons hlt]
    rfl
theorem rpaint_f {e o : Int} (he : 0 < e) (he2 : e ≤ 10000000) (h0 : 0 ≤ o) (h1 : o ≤ 2999) {s : List S25} (hs : ∀ x ∈ s, Ins e x) (hl : s.length ≤ 90) {k : Nat} (hk : s.length + 250 < k) : aircheckref15_Paint.f k e o s = some (paintP e o s, 0) := by
  unfold aircheckref15_Paint.f
  rw [rnew_f he he2 h0 h1, Option.bind_some]
  exact rpaint_l0 s hs hl s.length k 0 _ (by omega) (by omega) (new_tl he he2 h0 h1) (by simp)
def endP (n : Int) : Int := 1 + pickP n 400
theorem endP_in (n : Int) : 0 < endP n ∧ endP n ≤ 400 := by
  have := pickP_in (a := n) (n := 400) (by omega)
  unfold endP; omega
def madeP (n : Int) (x : List S29) : List S25 := paintP (endP n) 0 (spansP (endP n) x)
theorem made_f {n : Int} (hn : I64 n) (x : List S29) (hl : x.length ≤ 9223372036854775806) (hw : ∀ y ∈ x, Q29 y) {k : Nat} (hk : 300 < k) : aircheckref15_Made.f k n x = some (madeP n x) := by
  have h := endP_in n
  have hi := spans_in (e := endP n) (by omega) x
  unfold aircheckref15_Made.f
  rw [rpick_f hn (by omega), Option.bind_some, wrap_id (x := 1 + pickP n 400) (by unfold endP at h; omega) (by unfold endP at h; omega)]
  rw [show 1 + pickP n 400 = endP n from rfl, spans_f (by omega) (by omega) x hl hw (by omega), Option.bind_some, rpaint_f (by omega) (by omega) (by omega) (by omega) (fun y hy => (hi.1 y hy).1) (by omega) (by omega), Option.bind_some]
  rfl
theorem lastOwn_in {m : Int} (t : Int) : ∀ (s : List S25) (o : Int), (∀ x ∈ s, 0 ≤ x.f2 ∧ x.f2 ≤ m) → 0 ≤ o → o ≤ m → 0 ≤ lastOwn t o s ∧ lastOwn t o s ≤ m
  | [], o, _, h0, h1 => ⟨h0, h1⟩
  | x :: s, o, h, h0, h1 => by
    unfold lastOwn
    simp only [List.foldl_cons]
    have hx := h x (by simp)
    exact lastOwn_in t s _ (fun y hy => h y (by simp [hy])) (by split <;> omega) (by split <;> omega)
/-- Made: a valid timeline with the end, at most 41 spans, owners 0 to 7. -/
theorem made_tl (n : Int) (x : List S29) : Tl (madeP n x) (endP n) ∧ (madeP n x).length ≤ 41 ∧ ∀ t o, own (madeP n x) t = some o → 0 ≤ o ∧ o ≤ 7 := by
  have h := endP_in n
  have hi := spans_in (e := endP n) (by omega) x
  obtain ⟨q1, q2, q3⟩ := paint_tl (e := endP n) (o := 0) (by omega) (by omega) (by omega) (by omega) (s := spansP (endP n) x) (fun y hy => (hi.1 y hy).1)
  refine ⟨q1, by show (paintP _ _ _).length ≤ 41; omega, fun t o ho => ?_⟩
  by_cases ht : 0 ≤ t ∧ t < endP n
  · have := q3 t ht.1 ht.2
    have e : own (madeP n x) t = some (lastOwn t 0 (spansP (endP n) x)) := this
    rw [e] at ho
    obtain rfl := Option.some.inj ho
    exact lastOwn_in t _ 0 (fun y hy => ⟨(hi.1 y hy).1.2.2.2.1, (hi.1 y hy).2⟩) (by omega) (by omega)
  · have : own (madeP n x) t = none := own_out q1.cont (by omega)
    rw [this] at ho
    cases ho
theorem same_of_tl {l m : List S25} {e : Int} (hl : Tl l e) (hm : Tl m e) (h : ∀ t, 0 ≤ t → t < e → own l t = own m t) : l = m :=
  same_of hl.cont hm.cont hl.can hm.can h
theorem join_tl {l m : List S25} {e e' t : Int} (h : Tl l e) (h' : Tl m e') (h0 : 0 ≤ t) (h1 : t ≤ e) (h2 : t ≤ e') :
    Tl (tl_joinP l m t) e' ∧ (∀ s, 0 ≤ s → s < e' → own (tl_joinP l m t) s = if s < t then own l s else own m s) ∧ (tl_joinP l m t).length ≤ l.length + m.length := by
  unfold tl_joinP
  rw [tend_cont h'.cont]
  have c1 := clip_cont (lo := 0) (hi := t) h.cont h0 h0 (by omega)
  rw [if_neg (by omega)] at c1
  have c1' : Cont (tl_clip l 0 t) 0 t := by
    have : (if t < e then t else e) = t := by split <;> omega
    rw [this] at c1
    exact c1
  have c2 := clip_cont (lo := t) (hi := e') h'.cont h2 (by omega) h2
  have c2' : Cont (tl_clip m t e') t e' := by
    have e1 : (if 0 < t then t else 0) = t := by split <;> omega
    have e2 : (if e' < e' then e' else e') = e' := by split <;> rfl
    rw [e1, e2] at c2
    exact c2
  obtain ⟨p1, p2, p3, p4⟩ := addAll_all (tl_clip l 0 t) (zs := []) (a := 0) (b := 0) rfl c1' trivial (by simp) (clip_good 0 t h.good)
  obtain ⟨r1, r2, r3, r4⟩ := addAll_all (tl_clip m t e') p1 c2' p2 p3 (clip_good t e' h'.good)
  refine ⟨⟨r1, r2, r3⟩, fun s s0 s1 => ?_, ?_⟩
  · rw [r4, own_append, p4, List.nil_append, own_clip, own_clip]
    by_cases d : s < t
    · rw [if_pos ⟨s0, d⟩, if_pos d, if_neg (by omega)]
      cases own l s <;> rfl
    · rw [if_neg (by omega), if_pos ⟨by omega, s1⟩, if_neg d]
      rfl
  · have e1 := tl_addAll_clip_len m (tl_addAll [] (tl_clip l 0 t)) t e'
    have e2 := tl_addAll_clip_len l [] 0 t
    simp at e2
    omega
theorem join_f {l m : List S25} {e e' t : Int} (h : Tl l e) (h' : Tl m e') (h0 : 0 ≤ t) (h1 : t ≤ e) (h2 : t ≤ e') (hl : l.length + m.length ≤ 200) : timeline_Join.f l m t = some (tl_joinP l m t, 0) := by
  unfold timeline_Join.f
  have hv : tl_validB l = true := (validB_iff l).2 ⟨⟨e, h⟩, by omega⟩
  have hv' : tl_validB m = true := (validB_iff m).2 ⟨⟨e', h'⟩, by omega⟩
  rw [if_pos (by unfold tl_joinB; rw [hv, hv', tend_cont h.cont, tend_cont h'.cont]; simp [h0, h1, h2])]
  unfold tl_doneF
  rw [if_neg (by have := (join_tl h h' h0 h1 h2).2.2; omega)]
theorem same_l0 (a b : List S25) (hl : a.length = b.length) (hn : a.length ≤ 9223372036854775806) (d : Nat) : ∀ (k i : Nat), i + d = a.length → d < k →
    ∃ r, aircheckref15_Same.l0 k a b (i : Int) = some r ∧ (r = true ↔ a.drop i = b.drop i) := by
  induction d with
  | zero =>
    intro k i hi hk
    obtain ⟨k, rfl⟩ : ∃ m, k = m + 1 := ⟨k - 1, by omega⟩
    simp only [aircheckref15_Same.l0]
    rw [if_neg (by omega), List.drop_eq_nil_of_le (by omega), List.drop_eq_nil_of_le (by omega)]
    exact ⟨true, rfl, by simp⟩
  | succ d ih =>
    intro k i hi hk
    obtain ⟨k, rfl⟩ : ∃ m, k = m + 1 := ⟨k - 1, by omega⟩
    have h1 : i < a.length := by omega
    have h2 : i < b.length := by omega
    simp only [aircheckref15_Same.l0]
    rw [if_pos (by omega), if_pos (by omega), if_pos (by omega), rd25 h1, rd25 h2, tl_wrap_up h1 (by omega), List.drop_eq_getElem_cons h1, List.drop_eq_getElem_cons h2]
    by_cases c : a[i] = b[i]
    · rw [if_neg (by rw [c]; simp)]
      obtain ⟨r, h3, h4⟩ := ih k (i + 1) (by omega) (by omega)
      exact ⟨r, h3, by rw [h4, c]; exact ⟨fun h => by rw [h], fun h => (List.cons.inj h).2⟩⟩
    · rw [if_pos]
      · exact ⟨false, rfl, fun h => (by cases h), fun h => absurd (List.cons.inj h).1 c⟩
      · have : ¬ ((a[i]).f0 = (b[i]).f0 ∧ (a[i]).f1 = (b[i]).f1 ∧ (a[i]).f2 = (b[i]).f2) := fun ⟨x, y, z⟩ => c (by cases ha : a[i]; cases hb : b[i]; simp_all)
        simp only [Bool.or_eq_true, Bool.not_eq_true', beq_eq_false_iff_ne]
        omega
theorem same_f (a b : List S25) (hn : a.length ≤ 9223372036854775806) {k : Nat} (hk : a.length < k) : ∃ r, aircheckref15_Same.f k a b = some r ∧ (r = true ↔ a = b) := by
  unfold aircheckref15_Same.f
  by_cases h : (a.length : Int) = (b.length : Int)
  · rw [if_pos h]
    obtain ⟨r, h1, h2⟩ := same_l0 a b (by omega) hn a.length k 0 (by omega) hk
    exact ⟨r, h1, by simpa using h2⟩
  · rw [if_neg h]
    exact ⟨false, rfl, by simp; rintro rfl; exact h rfl⟩
theorem same_refl (a : List S25) (hn : a.length ≤ 9223372036854775806) {k : Nat} (hk : a.length < k) : aircheckref15_Same.f k a a = some true := by
  obtain ⟨r, h1, h2⟩ := same_f a a hn hk
  rw [h1, h2.2 rfl]
def ownedP (l : List S25) (o : Int) : List S45 := (l.filter (fun s => decide (s.f2 = o))).map (fun s => ⟨s.f0, s.f1⟩)
theorem ownedP_cons (s : S25) (l : List S25) (o : Int) : ownedP (s :: l) o = if s.f2 = o then ⟨s.f0, s.f1⟩ :: ownedP l o else ownedP l o := by
  unfold ownedP
  by_cases h : s.f2 = o <;> simp [h]
theorem ownedP_len (l : List S25) (o : Int) : (ownedP l o).length ≤ l.length := by
  unfold ownedP
  rw [List.length_map]
  exact List.length_filter_le _ _
theorem owned_l0 (l : List S25) (o : Int) (hl : l.length ≤ 1000000) (d : Nat) : ∀ (k i : Nat) (out : List S45), i + d = l.length → d < k → out.length ≤ i →
    timeline_Owned.l0 k o out l (l.length : Int) (i : Int) = some (out ++ ownedP (l.drop i) o, 0) := by
  induction d with
  | zero =>
    intro k i out hi hk ho
    obtain ⟨k, rfl⟩ : ∃ m, k = m + 1 := ⟨k - 1, by omega⟩
    simp only [timeline_Owned.l0]
    rw [if_neg (by omega), List.drop_eq_nil_of_le (by omega)]
    simp [ownedP]
  | succ d ih =>
    intro k i out hi hk ho
    obtain ⟨k, rfl⟩ : ∃ m, k = m + 1 := ⟨k - 1, by omega⟩
    have hlt : i < l.length := by omega
    simp only [timeline_Owned.l0]
    rw [if_pos (by omega), if_pos (by omega), if_pos (by omega), rd25 hlt, tl_wrap_up hlt (by omega), List.drop_eq_getElem_cons hlt, ownedP_cons]
    by_cases c : (l[i]).f2 = o
    · rw [if_pos c, if_pos c, if_pos (by omega), ih k (i + 1) _ (by omega) (by omega) (by simp; omega), List.append_assoc]
      rfl
    · rw [if_neg c, if_neg c, ih k (i + 1) _ (by omega) (by omega) (by omega)]
theorem owned_f {l : List S25} {e : Int} (h : Tl l e) (hl : l.length ≤ 200) (o : Int) {k : Nat} (hk : l.length < k) : timeline_Owned.f k l o = some (ownedP l o, 0) := by
  unfold timeline_Owned.f
  rw [valid_tl h hl hk, Option.bind_some, if_pos rfl]
  simpa using owned_l0 l o (by omega) l.length k 0 [] (by omega) hk (by simp)
def inB (sp : List S45) (t : Int) : Bool := sp.any (fun x => decide (x.f0 ≤ t) && decide (t < x.f1))
theorem in_l0 (sp : List S45) (t : Int) (hl : sp.length ≤ 9223372036854775806) (d : Nat) : ∀ (k i : Nat), i + d = sp.length → d < k → aircheckref07_In.l0 k sp t (i : Int) = some (inB (sp.drop i) t) := by
  induction d with
  | zero =>
    intro k i hi hk
    obtain ⟨k, rfl⟩ : ∃ m, k = m + 1 := ⟨k - 1, by omega⟩
    simp only [aircheckref07_In.l0]
    rw [if_neg (by omega), List.drop_eq_nil_of_le (by omega)]
    rfl
  | succ d ih =>
    intro k i hi hk
    obtain ⟨k, rfl⟩ : ∃ m, k = m + 1 := ⟨k - 1, by omega⟩
    have hlt : i < sp.length := by omega
    simp only [aircheckref07_In.l0]
    rw [if_pos (by omega), if_pos (by omega), rd45 hlt, tl_wrap_up hlt (by omega), List.drop_eq_getElem_cons hlt, ih k (i + 1) (by omega) (by omega)]
    unfold inB
    rw [List.any_cons]
    by_cases c1 : (sp[i]).f0 ≤ t
    · by_cases c2 : t < (sp[i]).f1
      · rw [if_pos c1, if_pos c2]; simp only [decide_eq_true c1, decide_eq_true c2, Bool.and_self, Bool.true_or]
      · rw [if_pos c1, if_neg c2]; simp only [decide_eq_true c1, decide_eq_false c2, Bool.and_false, Bool.false_or]
    · rw [if_neg c1]; simp only [decide_eq_false c1, Bool.false_and, Bool.false_or]
theorem in_f (sp : List S45) (t : Int) (hl : sp.length ≤ 9223372036854775806) {k : Nat} (hk : sp.length < k) : aircheckref07_In.f k sp t = some (inB sp t) :=
  in_l0 sp t hl sp.length k 0 (by omega) hk
theorem inB_owned {t o : Int} : ∀ {l : List S25} {a b : Int}, Cont l a b → inB (ownedP l o) t = decide (own l t = some o)
  | [], a, b, _ => by simp [inB, ownedP, own]
  | s :: l, a, b, h => by
    have ih := inB_owned (t := t) (o := o) h.2.2
    rw [ownedP_cons]
    by_cases c : s.f0 ≤ t ∧ t < s.f1
    · have e1 : own (s :: l) t = some s.f2 := by simp only [own]; rw [if_pos c]
      rw [e1]
      by_cases d : s.f2 = o
      · rw [if_pos d, d]
        simp [inB, c.1, c.2]
      · rw [if_neg d, ih, own_out h.2.2 (Or.inl c.2)]
        simp [d]
    · have e1 : own (s :: l) t = own l t := by simp only [own]; rw [if_neg c]
      rw [e1]
      by_cases d : s.f2 = o
      · rw [if_pos d, ← ih]
        unfold inB
        rw [List.any_cons]
        have : (decide (s.f0 ≤ t) && decide (t < s.f1)) = false := by simp; omega
        simp only [this, Bool.false_or]
      · rw [if_neg d, ih]
def lenP (sp : List S45) : Int := (sp.map (fun s => s.f1 - s.f0)).sum
def sumO (l : List S25) : Nat → Int
  | 0 => 0
  | n + 1 => sumO l n + lenP (ownedP l (n : Int))
theorem sumO_nil (n : Nat) : sumO [] n = 0 := by
  induction n with
  | zero => rfl
  | succ n ih => simp [sumO, ih, ownedP, lenP]
theorem sumO_cons (s : S25) (l : List S25) (h : 0 ≤ s.f2) (n : Nat) : sumO (s :: l) n = sumO l n + if s.f2 < (n : Int) then s.f1 - s.f0 else 0 := by
  induction n with
  | zero => simp [sumO]; omega
  | succ n ih =>
    simp only [sumO, ih, ownedP_cons]
    by_cases c : s.f2 = (n : Int)
    · rw [if_pos c, if_neg (by omega), if_pos (by omega)]
      simp [lenP]; omega
    · rw [if_neg c]
      by_cases d : s.f2 < (n : Int)
      · rw [if_pos d, if_pos (by omega)]; omega
      · rw [if_neg d, if_neg (by omega)]; omega
theorem sumO_all {n : Nat} : ∀ {l : List S25} {a b : Int}, Cont l a b → (∀ s ∈ l, 0 ≤ s.f2 ∧ s.f2 < (n : Int)) → sumO l n = b - a
  | [], a, b, h, _ => by
    rw [sumO_nil]
    have : a = b := h
    omega
  | s :: l, a, b, h, hs => by
    have hx := hs s (by simp)
    rw [sumO_cons s l hx.1, if_pos hx.2, sumO_all h.2.2 (fun y hy => hs y (by simp [hy])), h.1]
    omega
theorem own_span : ∀ {l : List S25} {a b : Int}, Cont l a b → ∀ s ∈ l, own l s.f0 = some s.f2 ∧ a ≤ s.f0 ∧ s.f0 < s.f1 ∧ s.f1 ≤ b
  | [], _, _, _, s, hs => by simp at hs
  | x :: l, a, b, h, s, hs => by
    have hb := h.2.2.le
    rcases List.mem_cons.1 hs with rfl | hs
    · refine ⟨?_, by rw [h.1]; omega, by rw [h.1]; exact h.2.1, hb⟩
      simp only [own]
      rw [if_pos ⟨by omega, by rw [h.1]; exact h.2.1⟩]
    · obtain ⟨h1, h2, h3, h4⟩ := own_span h.2.2 s hs
      have := h.2.1
      refine ⟨?_, by omega, h3, h4⟩
      simp only [own]
      rw [if_neg (by omega)]
      exact h1
theorem lenP_le : ∀ (sp : List S45) (m : Int), 0 ≤ m → (∀ x ∈ sp, 0 ≤ x.f0 ∧ x.f0 < x.f1 ∧ x.f1 ≤ m) → 0 ≤ lenP sp ∧ lenP sp ≤ m * sp.length
  | [], m, _, _ => by simp [lenP]
  | x :: sp, m, hm, h => by
    have h1 := lenP_le sp m hm (fun y hy => h y (by simp [hy]))
    have h2 := h x (by simp)
    have e : lenP (x :: sp) = (x.f1 - x.f0) + lenP sp := by simp [lenP]
    rw [e, List.length_cons]
    have e2 : m * ((sp.length + 1 : Nat) : Int) = m * (sp.length : Int) + m := by rw [Int.natCast_add, Int.mul_add]; simp
    rw [e2]
    omega
theorem ownedP_in {l : List S25} {a b : Int} (h : Cont l a b) (o : Int) : ∀ x ∈ ownedP l o, a ≤ x.f0 ∧ x.f0 < x.f1 ∧ x.f1 ≤ b := by
  intro x hx
  unfold ownedP at hx
  obtain ⟨s, hs, rfl⟩ := List.mem_map.1 hx
  exact (own_span h s (List.mem_filter.1 hs).1).2
theorem own_at : ∀ {l : List S25} {a b : Int}, Cont l a b → ∀ s ∈ l, ∀ t, s.f0 ≤ t → t < s.f1 → own l t = some s.f2
  | [], _, _, _, s, hs => by simp at hs
  | x :: l, a, b, h, s, hs => by
    intro t h0 h1
    rcases List.mem_cons.1 hs with rfl | hs
    · simp only [own]
      rw [if_pos ⟨h0, h1⟩]
    · have h2 := (own_span h.2.2 s hs).2
      simp only [own]
      rw [if_neg (by omega)]
      exact own_at h.2.2 s hs t h0 h1
def Sep : Int → List S45 → Prop
  | _, [] => True
  | lo, s :: l => lo < s.f0 ∧ s.f0 < s.f1 ∧ Sep s.f1 l
def lastE (lo : Int) (l : List S45) : Int := match l.getLast? with
  | none => lo
  | some s => s.f1
theorem lastE_cons (lo : Int) (s : S45) (l : List S45) : lastE lo (s :: l) = lastE s.f1 l := by
  unfold lastE
  cases l with
  | nil => rfl
  | cons x l =>
    rw [List.getLast?_cons_cons]
    cases h : (x :: l).getLast? with
    | none => simp at h
    | some y => rfl
theorem lastE_snoc (lo : Int) (l : List S45) (s : S45) : lastE lo (l ++ [s]) = s.f1 := by simp [lastE]
theorem Sep.snoc : ∀ {l : List S45} {lo : Int} {s : S45}, Sep lo (l ++ [s]) ↔ Sep lo l ∧ lastE lo l < s.f0 ∧ s.f0 < s.f1
  | [], lo, s => by simp [Sep, lastE]
  | x :: l, lo, s => by
    rw [List.cons_append, lastE_cons]
    simp only [Sep]
    rw [Sep.snoc]
    constructor
    · rintro ⟨h1, h2, h3, h4, h5⟩; exact ⟨⟨h1, h2, h3⟩, h4, h5⟩
    · rintro ⟨⟨h1, h2, h3⟩, h4, h5⟩; exact ⟨h1, h2, h3, h4, h5⟩
theorem Sep.le : ∀ {l : List S45} {lo : Int}, Sep lo l → ∀ x ∈ l, lo < x.f0 ∧ x.f0 < x.f1 ∧ x.f1 ≤ lastE lo l
  | [], _, _, x, hx => by simp at hx
  | s :: l, lo, h, x, hx => by
    rw [lastE_cons]
    have h3 : s.f1 ≤ lastE s.f1 l := by
      cases l with
      | nil => exact Int.le_refl _
      | cons y l => have := Sep.le h.2.2 y (by simp); omega
    rcases List.mem_cons.1 hx with rfl | hx
    · exact ⟨h.1, h.2.1, h3⟩
    · have := Sep.le h.2.2 x hx
      have := h.1
      have := h.2.1
      omega
theorem inB_cons (s : S45) (l : List S45) (t : Int) : inB (s :: l) t = (decide (s.f0 ≤ t) && decide (t < s.f1) || inB l t) := by
  unfold inB
  rw [List.any_cons]
theorem inB_append (l m : List S45) (t : Int) : inB (l ++ m) t = (inB l t || inB m t) := by
  unfold inB
  rw [List.any_append]
theorem inB_low {l : List S45} {lo t : Int} (h : Sep lo l) (ht : t ≤ lo) : inB l t = false := by
  unfold inB
  rw [List.any_eq_false]
  intro x hx
  have := Sep.le h x hx
  simp; omega
theorem inB_high {l : List S45} {lo t : Int} (h : Sep lo l) (ht : lastE lo l ≤ t) : inB l t = false := by
  unfold inB
  rw [List.any_eq_false]
  intro x hx
  have := Sep.le h x hx
  simp; omega
theorem sep_nil {l : List S45} {lo : Int} (h : Sep lo l) (hn : ∀ t, inB l t = false) : l = [] := by
  cases l with
  | nil => rfl
  | cons s l =>
    have h1 := hn s.f0
    rw [inB_cons] at h1
    simp at h1
    have := h.2.1
    omega
theorem sep_eq : ∀ {l m : List S45} {lo lo' : Int}, Sep lo l → Sep lo' m → (∀ t, inB l t = inB m t) → l = m
  | [], m, lo, lo', _, hm, h => (sep_nil hm (fun t => (h t).symm.trans rfl)).symm
  | s :: l, [], lo, lo', hl, _, h => sep_nil hl (fun t => h t)
  | s :: l, x :: m, lo, lo', hl, hm, h => by
    have hs := hl.2.1
    have hx := hm.2.1
    have in_s : inB (s :: l) s.f0 = true := by rw [inB_cons]; simp; omega
    have in_x : inB (x :: m) x.f0 = true := by rw [inB_cons]; simp; omega
    have low_s : ∀ t, t < s.f0 → inB (s :: l) t = false := fun t ht => inB_low (lo := s.f0 - 1) (l := s :: l) ⟨by omega, hl.2.1, hl.2.2⟩ (by omega)
    have low_x : ∀ t, t < x.f0 → inB (x :: m) t = false := fun t ht => inB_low (lo := x.f0 - 1) (l := x :: m) ⟨by omega, hm.2.1, hm.2.2⟩ (by omega)
    have e0 : s.f0 = x.f0 := by
      rcases Int.lt_trichotomy s.f0 x.f0 with c | c | c
      · have := low_x _ c; rw [← h, in_s] at this; cases this
      · exact c
      · have := low_s _ c; rw [h, in_x] at this; cases this
    have out_s : inB (s :: l) s.f1 = false := by
      rw [inB_cons, inB_low hl.2.2 (Int.le_refl _)]; simp
    have out_x : inB (x :: m) x.f1 = false := by
      rw [inB_cons, inB_low hm.2.2 (Int.le_refl _)]; simp
    have e1 : s.f1 = x.f1 := by
      rcases Int.lt_trichotomy s.f1 x.f1 with c | c | c
      · rw [h, inB_cons] at out_s
        simp at out_s
        omega
      · exact c
      · rw [← h, inB_cons] at out_x
        simp at out_x
        omega
    have e : s = x := by cases s; cases x; simp_all
    subst e
    have hr : ∀ t, inB l t = inB m t := fun t => by
      have := h t
      rw [inB_cons, inB_cons] at this
      by_cases c : s.f0 ≤ t ∧ t < s.f1
      · rw [inB_low hl.2.2 (by omega), inB_low hm.2.2 (by omega)]
      · have c' : (decide (s.f0 ≤ t) && decide (t < s.f1)) = false := by simp; omega
        simpa only [c', Bool.false_or] using this
    rw [sep_eq hl.2.2 hm.2.2 hr]
/-- What Diff has built up to second p. -/
def DU (a b : List S25) (out : List S45) (p : Int) : Prop := Sep (-1) out ∧ lastE (-1) out ≤ p ∧ 0 ≤ p ∧ ∀ t, inB out t = decide (0 ≤ t ∧ t < p ∧ own a t ≠ own b t)
theorem step1_du {a b : List S25} {out : List S45} {p o : Int} {x : S25} (h : DU a b out p) (h0 : x.f0 = p) (h1 : p < x.f1) (ha : ∀ t, p ≤ t → t < x.f1 → own a t = some o) (hb : ∀ t, p ≤ t → t < x.f1 → own b t = some x.f2) : DU a b (tl_step1 o out x) x.f1 := by
  obtain ⟨s1, s2, s3, s4⟩ := h
  unfold tl_step1
  by_cases c : x.f2 = o
  · rw [if_pos c]
    refine ⟨s1, by omega, by omega, fun t => ?_⟩
    rw [s4]
    by_cases d : p ≤ t ∧ t < x.f1
    · have : own a t = own b t := by rw [ha t d.1 d.2, hb t d.1 d.2, c]
      simp [this]
    · have : (0 ≤ t ∧ t < p ∧ own a t ≠ own b t) ↔ (0 ≤ t ∧ t < x.f1 ∧ own a t ≠ own b t) := by
        constructor
        · rintro ⟨q1, q2, q3⟩; exact ⟨q1, by omega, q3⟩
        · rintro ⟨q1, q2, q3⟩; exact ⟨q1, by omega, q3⟩
      simp only [this]
  · rw [if_neg c]
    have hin : ∀ t, (decide (0 ≤ t ∧ t < p ∧ own a t ≠ own b t) || (decide (p ≤ t) && decide (t < x.f1))) = decide (0 ≤ t ∧ t < x.f1 ∧ own a t ≠ own b t) := fun t => by
      by_cases d : p ≤ t ∧ t < x.f1
      · have hne : own a t ≠ own b t := by
          rw [ha t d.1 d.2, hb t d.1 d.2]
          intro hh
          exact c (Option.some.inj hh).symm
        simp [d.1, d.2, hne]
        omega
      · have e1 : (decide (p ≤ t) && decide (t < x.f1)) = false := by simp; omega
        rw [e1, Bool.or_false]
        have : (0 ≤ t ∧ t < p ∧ own a t ≠ own b t) ↔ (0 ≤ t ∧ t < x.f1 ∧ own a t ≠ own b t) := by
          constructor
          · rintro ⟨q1, q2, q3⟩; exact ⟨q1, by omega, q3⟩
          · rintro ⟨q1, q2, q3⟩; exact ⟨q1, by omega, q3⟩
        simp only [this]
    rcases List.eq_nil_or_concat out with rfl | ⟨ys, z, rfl⟩
    · have e : tl_addT [] ⟨x.f0, x.f1⟩ = [⟨x.f0, x.f1⟩] := rfl
      rw [e]
      refine ⟨⟨by show -1 < x.f0; omega, by show x.f0 < x.f1; omega, trivial⟩, Int.le_refl _, by omega, fun t => ?_⟩
      rw [← hin t, ← s4 t, inB_cons, h0]
      simp [inB]
    · rw [List.concat_eq_append] at s1 s2 s4 ⊢
      rw [tl_addT_snoc]
      rw [lastE_snoc] at s2
      obtain ⟨q1, q2, q3⟩ := Sep.snoc.1 s1
      by_cases d : z.f1 = x.f0
      · rw [if_pos d]
        refine ⟨Sep.snoc.2 ⟨q1, q2, by show z.f0 < x.f1; omega⟩, by rw [lastE_snoc]; exact Int.le_refl _, by omega, fun t => ?_⟩
        rw [← hin t, ← s4 t, inB_append, inB_append, inB_cons, inB_cons, Bool.or_assoc]
        congr 1
        simp only [inB, List.any_nil, Bool.or_false]
        rw [Bool.eq_iff_iff]
        simp
        omega
      · rw [if_neg d]
        refine ⟨Sep.snoc.2 ⟨s1, by rw [lastE_snoc]; show z.f1 < x.f0; omega, by show x.f0 < x.f1; omega⟩, by rw [lastE_snoc]; exact Int.le_refl _, by omega, fun t => ?_⟩
        rw [← hin t, ← s4 t, inB_append (ys ++ [z]), inB_cons, h0]
        simp [inB]
theorem steps_du {a b : List S25} {o : Int} : ∀ (ys : List S25) {out : List S45} {p q : Int}, DU a b out p → Cont ys p q → (∀ t, p ≤ t → t < q → own a t = some o) → (∀ t, p ≤ t → t < q → own b t = own ys t) → DU a b (ys.foldl (tl_step1 o) out) q
  | [], out, p, q, h, hc, _, _ => by
    have : p = q := hc
    subst this
    exact h
  | x :: ys, out, p, q, h, hc, ha, hb => by
    have hle := hc.2.2.le
    have := hc.1
    have := hc.2.1
    have h' := step1_du h hc.1 hc.2.1 (fun t t0 t1 => ha t t0 (by omega)) (fun t t0 t1 => by
      rw [hb t t0 (by omega)]
      simp only [own]
      rw [if_pos (by omega)])
    exact steps_du ys h' hc.2.2 (fun t t0 t1 => ha t (by omega) t1) (fun t t0 t1 => by
      rw [hb t (by omega) t1]
      simp only [own]
      rw [if_neg (by omega)])
theorem diff_go {a b : List S25} {e : Int} (hb : Tl b e) : ∀ (ys : List S25) {out : List S45} {p : Int}, DU a b out p → Cont ys p e → (∀ t, p ≤ t → t < e → own a t = own ys t) → DU a b (ys.foldl (tl_stepP b) out) e
  | [], out, p, h, hc, _ => by
    have : p = e := hc
    subst this
    exact h
  | x :: ys, out, p, h, hc, ha => by
    have hle := hc.2.2.le
    have hx0 := hc.1
    have hx1 := hc.2.1
    have hp := h.2.2.1
    have c1 := clip_cont (lo := x.f0) (hi := x.f1) hb.cont (by omega) (by omega) (by omega)
    have e1 : (if 0 < x.f0 then x.f0 else 0) = p := by split <;> omega
    have e2 : (if x.f1 < e then x.f1 else e) = x.f1 := by split <;> omega
    rw [e1, e2] at c1
    have h' : DU a b (tl_stepP b out x) x.f1 := steps_du _ h c1 (fun t t0 t1 => by
      rw [ha t t0 (by omega)]
      simp only [own]
      rw [if_pos (by omega)]) (fun t t0 t1 => by rw [own_clip, if_pos (by omega)])
    exact diff_go hb ys h' hc.2.2 (fun t t0 t1 => by
      rw [ha t (by omega) t1]
      simp only [own]
      rw [if_neg (by omega)])
theorem diff_du {a b : List S25} {e : Int} (ha : Tl a e) (hb : Tl b e) : DU a b (tl_diffP a b) e :=
  diff_go hb a ⟨trivial, by decide, Int.le_refl _, fun t => by simp [inB]; omega⟩ ha.cont (fun _ _ _ => rfl)
theorem step_len (o : Int) (ys : List S25) : ∀ out : List S45, (ys.foldl (tl_step1 o) out).length ≤ out.length + ys.length := by
  induction ys with
  | nil => intro out; simp
  | cons y ys ih =>
    intro out
    have h1 := ih (tl_step1 o out y)
    have h2 := tl_step1_len o out y
    simp only [List.foldl_cons, List.length_cons]
    omega
theorem diff_len (m : List S25) (n : Nat) (hm : m.length ≤ n) : ∀ (l : List S25) (out : List S45), (l.foldl (tl_stepP m) out).length ≤ out.length + n * l.length
  | [], out => by simp
  | x :: l, out => by
    have h1 := diff_len m n hm l (tl_stepP m out x)
    have h2 := step_len x.f2 (tl_clip m x.f0 x.f1) out
    have h3 := tl_clip_len m x.f0 x.f1
    have h4 : (tl_stepP m out x).length ≤ out.length + (tl_clip m x.f0 x.f1).length := h2
    simp only [List.foldl_cons, List.length_cons]
    rw [Nat.mul_add]
    omega
theorem diff_f {a b : List S25} {e : Int} (ha : Tl a e) (hb : Tl b e) (h1 : a.length ≤ 200) (h2 : b.length ≤ 200) : timeline_Diff.f a b = some (tl_diffP a b, 0) := by
  unfold timeline_Diff.f tl_diffB
  rw [(validB_iff a).2 ⟨⟨e, ha⟩, h1⟩, (validB_iff b).2 ⟨⟨e, hb⟩, h2⟩, tend_cont ha.cont, tend_cont hb.cont]
  simp
theorem samesp_l0 (a b : List S45) (hl : a.length = b.length) (hn : a.length ≤ 9223372036854775806) (d : Nat) : ∀ (k i : Nat), i + d = a.length → d < k →
    ∃ r, aircheckref07_SameSpells.l0 k a b (i : Int) = some r ∧ (r = true ↔ a.drop i = b.drop i) := by
  induction d with
  | zero =>
    intro k i hi hk
    obtain ⟨k, rfl⟩ : ∃ m, k = m + 1 := ⟨k - 1, by omega⟩
    simp only [aircheckref07_SameSpells.l0]
    rw [if_neg (by omega), List.drop_eq_nil_of_le (by omega), List.drop_eq_nil_of_le (by omega)]
    exact ⟨true, rfl, by simp⟩
  | succ d ih =>
    intro k i hi hk
    obtain ⟨k, rfl⟩ : ∃ m, k = m + 1 := ⟨k - 1, by omega⟩
    have h1 : i < a.length := by omega
    have h2 : i < b.length := by omega
    simp only [aircheckref07_SameSpells.l0]
    rw [if_pos (by omega), if_pos (by omega), if_pos (by omega), rd45 h1, rd45 h2, tl_wrap_up h1 (by omega), List.drop_eq_getElem_cons h1, List.drop_eq_getElem_cons h2]
    by_cases c : a[i] = b[i]
    · rw [if_neg (by rw [c]; simp)]
      obtain ⟨r, h3, h4⟩ := ih k (i + 1) (by omega) (by omega)
      exact ⟨r, h3, by rw [h4, c]; exact ⟨fun h => by rw [h], fun h => (List.cons.inj h).2⟩⟩
    · rw [if_pos]
      · exact ⟨false, rfl, fun h => (by cases h), fun h => absurd (List.cons.inj h).1 c⟩
      · have : ¬ ((a[i]).f0 = (b[i]).f0 ∧ (a[i]).f1 = (b[i]).f1) := fun ⟨x, y⟩ => c (by cases ha : a[i]; cases hb : b[i]; simp_all)
        simp only [Bool.or_eq_true, Bool.not_eq_true', beq_eq_false_iff_ne]
        omega
theorem samesp_f (a b : List S45) (hn : a.length ≤ 9223372036854775806) {k : Nat} (hk : a.length < k) : ∃ r, aircheckref07_SameSpells.f k a b = some r ∧ (r = true ↔ a = b) := by
  unfold aircheckref07_SameSpells.f
  by_cases h : (a.length : Int) = (b.length : Int)
  · rw [if_pos h]
    obtain ⟨r, h1, h2⟩ := samesp_l0 a b (by omega) hn a.length k 0 (by omega) hk
    exact ⟨r, h1, by simpa using h2⟩
  · rw [if_neg h]
    exact ⟨false, rfl, by simp; rintro rfl; exact h rfl⟩
theorem samesp_refl (a : List S45) (hn : a.length ≤ 9223372036854775806) {k : Nat} (hk : a.length < k) : aircheckref07_SameSpells.f k a a = some true := by
  obtain ⟨r, h1, h2⟩ := samesp_f a a hn hk
  rw [h1, h2.2 rfl]
/-- Within: a piece of a timeline. -/
theorem within_tl {l : List S25} {e a b : Int} (h : Tl l e) (h0 : 0 ≤ a) (h1 : a < b) (h2 : b ≤ e) :
    Cont (tl_addAll [] (tl_clip l a b)) a b ∧ Can none (tl_addAll [] (tl_clip l a b)) ∧ (∀ s ∈ tl_addAll [] (tl_clip l a b), Good s) ∧ (∀ t, a ≤ t → t < b → own (tl_addAll [] (tl_clip l a b)) t = own l t) ∧ (tl_addAll [] (tl_clip l a b)).length ≤ l.length := by
  have c1 := clip_cont (lo := a) (hi := b) h.cont (by omega) (by omega) (by omega)
  have e1 : (if 0 < a then a else 0) = a := by split <;> omega
  have e2 : (if b < e then b else e) = b := by split <;> omega
  rw [e1, e2] at c1
  obtain ⟨p1, p2, p3, p4⟩ := addAll_all (tl_clip l a b) (zs := []) (a := a) (b := a) rfl c1 trivial (by simp) (clip_good a b h.good)
  refine ⟨p1, p2, p3, fun t t0 t1 => ?_, ?_⟩
  · rw [p4, List.nil_append, own_clip, if_pos ⟨t0, t1⟩]
  · have := tl_addAll_clip_len l [] a b
    simpa using this
theorem within_f {l : List S25} {e a b : Int} (h : Tl l e) (hl : l.length ≤ 200) (h0 : 0 ≤ a) (h1 : a < b) (h2 : b ≤ e) : timeline_Within.f l a b = some (tl_addAll [] (tl_clip l a b), 0) := by
  unfold timeline_Within.f tl_insideB
  rw [(validB_iff l).2 ⟨⟨e, h⟩, hl⟩, tend_cont h.cont]
  rw [if_pos (by simp [h0, h1, h2])]
  unfold tl_doneF
  rw [if_neg (by have := (within_tl h h0 h1 h2).2.2.2.2; omega)]
theorem put_join {a b : List S25} {e p f0 f1 c : Int} (ha : Tl a e) (hb : Tl b e) (h0 : 0 ≤ p) (h1 : p ≤ f0) (h2 : f0 < f1) (h3 : f1 ≤ e) (hab : ∀ t, p ≤ t → t < f0 → own a t = own b t) (hbc : ∀ t, f0 ≤ t → t < f1 → own b t = some c) (c0 : 0 ≤ c) (c1 : c ≤ 2999) :
    tl_putP (tl_joinP b a p) f0 f1 c = tl_joinP b a f1 := by
  obtain ⟨q1, q2, q3⟩ := join_tl hb ha h0 (by omega) (by omega)
  obtain ⟨r1, r2, r3⟩ := join_tl hb ha (t := f1) (by omega) (by omega) (by omega)
  obtain ⟨s1, s2, s3⟩ := put_tl q1 (a := f0) (b := f1) (c := c) (by omega) h2 h3 c0 c1
  refine same_of_tl s1 r1 (fun t t0 t1 => ?_)
  rw [s2, q2 t t0 t1, r2 t t0 t1]
  by_cases d1 : f0 ≤ t ∧ t < f1
  · rw [if_pos d1, if_pos d1.2, hbc t d1.1 d1.2]
  · rw [if_neg d1]
    by_cases d2 : t < p
    · rw [if_pos d2, if_pos (by omega)]
    · rw [if_neg d2]
      by_cases d3 : t < f0
      · rw [if_pos (by omega), hab t (by omega) d3]
      · rw [if_neg (by omega)]
end Go.Proofs.Ytbhngbjopfjacaa.PS15
