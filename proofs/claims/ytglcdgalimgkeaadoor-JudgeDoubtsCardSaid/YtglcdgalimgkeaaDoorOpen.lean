/- A value that reads as data of a kind is told as the printed functions tell it: one lemma a kind of type. -/
import Derived.Test.YtglcdgalimgkeaaDoorWMore
import Derived.Test.YtglcdgalimgkeaaDoorWApart
import Derived.SizedLaws
import Derived.OpenShut
namespace Go.Proofs.YtglcdgalimgkeaaDoor.Open
open Go.RowKit Go.ChangeShapes Go.Proofs.YtglcdgalimgkeaaDoorW.PrintWords
set_option linter.unusedVariables false
/-- What the reading of a value of type t gives: the kind's reading of some a, and Q of a. -/
def Opens (P : Program) (t : TypeId) {α : Type} (d : Kd α) (Q : α → Prop) : Prop :=
  ∀ {H : Type} (enc : TypeId × Value → H) (w : World) (spare : Nat → Bool) (held : Bool) (fuel : Nat) (cs : List Value) (x : DataW H × List MemPlace),
    DataW.trod enc P w 0 spare held fuel t cs = some x → (∀ n ∈ x.1.weights P t, n ≤ reachBytes) → ∃ a : α, d.K w a cs ∧ Q a
theorem Opens.imp {P : Program} {t : TypeId} {α : Type} {d : Kd α} {Q Q' : α → Prop} (h : Opens P t d Q) (hq : ∀ a, Q a → Q' a) : Opens P t d Q' := fun enc w sp hd f cs x hx hw => by
  obtain ⟨a, h1, h2⟩ := h enc w sp hd f cs x hx hw
  exact ⟨a, h1, hq a h2⟩
theorem opens_int {P : Program} {t : TypeId} {k : IntKind} (ht : P.underlying t = some (.int k)) : Opens P t (Kd.int k) (fun n => (Lit.int k n).wf = true) := fun enc w sp hd f cs x hx _ => by
  obtain ⟨n, rfl, rfl, hn⟩ := DataW.trod_int ht hx
  exact ⟨n, rfl, hn⟩
theorem list_of {α : Type} {R : Nat → α → Prop} : ∀ (n : Nat), (∀ i, i < n → ∃ a, R i a) → ∃ xs : List α, xs.length = n ∧ ∀ (i : Nat) a, xs[i]? = some a → R i a
  | 0, _ => ⟨[], rfl, fun i a h => by simp at h⟩
  | n + 1, h => by
    obtain ⟨xs, hl, hx⟩ := list_of n (fun i hi => h i (by omega))
    obtain ⟨a, ha⟩ := h n (by omega)
    refine ⟨xs ++ [a], by simp [hl], fun i b hb => ?_⟩
    by_cases hi : i < n
    · rw [List.getElem?_append_left (by omega)] at hb
      exact hx i b hb
    · rw [List.getElem?_append_right (by omega)] at hb
      have hz : i - xs.length = 0 := by
        have := (List.getElem?_eq_some_iff.1 hb).1
        simp at this
        omega
      rw [hz] at hb
      simp at hb
      have hin : i = n := by omega
      subst hin
      rw [← hb]
      exact ha
theorem weights_all {H : Type} {P : Program} {e : TypeId} : ∀ {ds : List (DataW H)} {i : Nat} {d : DataW H}, ds[i]? = some d → ∀ n ∈ d.weights P e, n ∈ DataW.weightsAll P e ds
  | d0 :: ds, 0, d, h, n, hn => by
    simp only [List.getElem?_cons_zero, Option.some.injEq] at h
    subst h
    simp only [DataW.weightsAll, List.mem_append]
    exact Or.inl hn
  | d0 :: ds, i + 1, d, h, n, hn => by
    simp only [List.getElem?_cons_succ] at h
    simp only [DataW.weightsAll, List.mem_append]
    exact Or.inr (weights_all h n hn)
  | [], _, _, h, _, _ => by simp at h
theorem cell_add (w : World) (a : Addr) (m i : Nat) : (a.add m).add i = a.add (m + i) := by
  unfold Addr.add
  split <;> split <;> simp_all [Nat.add_assoc] <;> omega
theorem opens_slice {P : Program} {t e : TypeId} {α : Type} {d : Kd α} {Q : α → Prop} {B : Nat} (ht : P.underlying t = some (.slice e)) (hc : P.cellsOf e = d.sz) (hB : P.bytesOf e = B) (ho : Opens P e d Q) :
    Opens P t (Kd.slice e d) (fun xs => xs.length ≤ maxLen ∧ xs.length * B ≤ 140737488351232 ∧ ∀ x ∈ xs, Q x) := fun enc w sp hd f cs x hx hw => by
  rcases DataW.trod_slice ht hx with ⟨rfl, rfl⟩ | ⟨a, len, cap, elems, rest, n, _, rfl, rfl, hb, hl, hm, hlen, hel, hsp, hns⟩
  · exact ⟨[], ⟨none, 0, rfl, Nat.le_refl _, rfl, by simp, fun h => absurd h (by simp)⟩, by simp [maxLen], by simp, by simp⟩
  · have hw0 : (elems.length + rest.length) * P.bytesOf e ≤ reachBytes := hw _ (by simp [DataW.weights, ht])
    obtain ⟨xs, hxl, hxs⟩ := list_of (R := fun i a' => ∃ cs', w.cells? 0 (a.add (i * P.cellsOf e)) (P.cellsOf e) = some cs' ∧ d.K w a' cs' ∧ Q a') len (by
      intro i hi
      have h1 := hel i hi
      have h2 : i < elems.length := by omega
      rw [List.getElem?_eq_getElem h2, Option.bind_eq_some_iff] at h1
      obtain ⟨cs', hcs, htr⟩ := h1
      obtain ⟨a', hk, hq⟩ := ho enc w sp hd n cs' _ htr (fun m hm' => hw m (by
        simp only [DataW.weights, ht, List.mem_cons, List.mem_append]
        refine .inr (.inl (weights_all (i := i) ?_ m hm'))
        rw [List.getElem?_map, List.getElem?_eq_getElem h2]
        rfl))
      exact ⟨a', cs', hcs, hk, hq⟩)
    subst hxl
    refine ⟨xs, ⟨some a, cap, rfl, hl, rfl, by unfold maxLen at hm; omega, fun _ => ⟨a, rfl, fun j p hp => ?_⟩⟩, by omega, ?_, fun y hy => ?_⟩
    · obtain ⟨cs', hcs, hk, _⟩ := hxs j p hp
      refine ⟨cs', d.K_len hk, hk, fun i u hu => ?_⟩
      obtain ⟨_, _, hcell⟩ := World.cells?_some hcs
      have hi : i < P.cellsOf e := by
        have h3 := d.K_len hk
        have h4 := (List.getElem?_eq_some_iff.1 hu).1
        omega
      have h5 := hcell i hi
      rw [cell_add w, hc] at h5
      rw [h5]
      exact hu
    · have h6 : xs.length * P.bytesOf e ≤ (elems.length + rest.length) * P.bytesOf e := Nat.mul_le_mul_right _ (by omega)
      rw [hB] at h6 hw0
      simp only [reachBytes] at hw0
      omega
    · obtain ⟨j, hj, rfl⟩ := List.getElem_of_mem hy
      obtain ⟨_, _, _, hq⟩ := hxs j _ (List.getElem?_eq_getElem hj)
      exact hq
/-- The fields of a struct (or the elements of an array), from offset o on. -/
def OpensL (P : Program) (fs : List (TypeId × Nat)) (o : Nat) {α : Type} (d : Kd α) (Q : α → Prop) : Prop :=
  ∀ {H : Type} (enc : TypeId × Value → H) (w : World) (spare : Nat → Bool) (held : Bool) (fuel : Nat) (cs : List Value) (xs : List (DataW H × List MemPlace)),
    cs.length = o + d.sz → xs.length = fs.length → (∀ (i : Nat) (f : TypeId × Nat), fs[i]? = some f → DataW.trod enc P w 0 spare held fuel f.1 ((cs.drop f.2).take (P.cellsOf f.1)) = xs[i]?) →
      (∀ (i : Nat) (f : TypeId × Nat) x, fs[i]? = some f → xs[i]? = some x → ∀ n ∈ x.1.weights P f.1, n ≤ reachBytes) → ∃ a : α, d.K w a (cs.drop o) ∧ Q a
theorem opensL_one {P : Program} {t : TypeId} {o : Nat} {α : Type} {d : Kd α} {Q : α → Prop} (hc : P.cellsOf t = d.sz) (h : Opens P t d Q) : OpensL P [(t, o)] o d Q := fun enc w sp hd f cs xs hl hx ht hw => by
  have h0 := ht 0 _ rfl
  obtain ⟨x, hx0⟩ : ∃ x, xs[0]? = some x := ⟨xs[0]'(by simp at hx; omega), List.getElem?_eq_getElem _⟩
  simp only [hx0] at h0
  rw [List.take_of_length_le (by simp [hl]; omega)] at h0
  exact h enc w sp hd f _ x h0 (hw 0 _ x rfl hx0)
theorem opensL_cons {P : Program} {t : TypeId} {o : Nat} {fs : List (TypeId × Nat)} {α β : Type} {d : Kd α} {d' : Kd β} {Q : α → Prop} {Q' : β → Prop} (hc : P.cellsOf t = d.sz) (h : Opens P t d Q) (h' : OpensL P fs (o + d.sz) d' Q') :
    OpensL P ((t, o) :: fs) o (Kd.pair d d') (fun x => Q x.1 ∧ Q' x.2) := fun enc w sp hd f cs xs hl hx ht hw => by
  have hl' : cs.length = o + (d.sz + d'.sz) := hl
  match xs, hx with
  | x :: xs, hx =>
    have h0 := ht 0 _ rfl
    simp only [List.getElem?_cons_zero] at h0
    obtain ⟨a, ha, hqa⟩ := h enc w sp hd f _ x h0 (hw 0 _ x rfl rfl)
    obtain ⟨b, hb, hqb⟩ := h' enc w sp hd f cs xs (by omega) (by simpa using hx) (fun i g hg => by simpa using ht (i + 1) g (by simpa using hg)) (fun i g y hg hy => hw (i + 1) g y (by simpa using hg) (by simpa using hy))
    refine ⟨(a, b), ⟨_, _, ?_, ha, hb⟩, hqa, hqb⟩
    rw [hc, ← List.drop_drop, List.take_append_drop]
theorem opens_iso {P : Program} {t : TypeId} {α β : Type} {d : Kd α} {f : β → α} {Q : α → Prop} (g : α → β) (hg : ∀ a, f (g a) = a) (h : Opens P t d Q) : Opens P t (Kd.iso d f) (fun b => Q (f b)) := fun enc w sp hd fu cs x hx hw => by
  obtain ⟨a, h1, h2⟩ := h enc w sp hd fu cs x hx hw
  exact ⟨g a, by show d.K w (f (g a)) cs; rw [hg]; exact h1, by show Q (f (g a)); rw [hg]; exact h2⟩
theorem opens_array {P : Program} {t e : TypeId} {m : Nat} {fl : List (TypeId × Nat)} {α : Type} {d : Kd α} {Q : α → Prop} (ht : P.underlying t = some (.array m e)) (hfl : (List.range m).map (fun i => (e, i * P.cellsOf e)) = fl) (hc : P.cellsOf t = d.sz) (h : OpensL P fl 0 d Q) : Opens P t d Q := fun enc w sp hd f cs x hx hw => by
  subst hfl
  obtain ⟨xs, n, _, rfl, hl, hlen, hf⟩ := DataW.trod_array ht hx
  refine h enc w sp hd n cs xs (by omega) (by simpa using hlen) (fun i g hg => ?_) (fun i g y hg hy k hk => hw k ?_)
  · rw [List.getElem?_map, Option.map_eq_some_iff] at hg
    obtain ⟨g0, hg0, rfl⟩ := hg
    obtain ⟨hi, rfl⟩ := List.getElem?_eq_some_iff.1 hg0
    simp only [List.length_range] at hi
    simpa using hf i hi
  · rw [List.getElem?_map, Option.map_eq_some_iff] at hg
    obtain ⟨g0, hg0, rfl⟩ := hg
    simp only [DataW.weights, ht]
    exact weights_all (i := i) (by rw [List.getElem?_map, hy]; rfl) k hk
theorem arg_open {H : Type} {enc : TypeId × Value → H} {P : Program} {W : World} {t : TypeId} {α : Type} {d : Kd α} {Q : α → Prop} {v : Value} {dd : DataW H} {p : List MemPlace} {sp : Nat → Bool} {hd : Bool} {ts : List TypeId} {ds : List (DataW H)} {j : Nat} (ho : Opens P t d Q) (hsz : (DataW.weightsEach P ts ds).all (· ≤ reachBytes) = true) (ht : ts[j]? = some t) (hdd : ds[j]? = some dd) (h : DataW.Trod enc P W 0 sp hd t v dd p) : ∃ a, d.K W a v.cells.toList ∧ Q a := by
  obtain ⟨f, hf⟩ := h
  exact ho enc W sp hd f _ _ hf (fun n hn => by simpa using List.all_eq_true.1 hsz _ (DataW.weights_mem_each ht hdd n hn))
theorem slice_open {α : Type} {d : Kd α} {e : Nat} {W : World} {A : Option Addr} {n c : Nat} {xs : List α} (h : (Kd.slice e d).K W xs (Value.slice A n c).cells.toList) : xs.length ≤ c ∧ d.C W A xs.length xs := by
  obtain ⟨A', c', he, hl, hr⟩ := h
  simp [Value.cells] at he
  obtain ⟨rfl, rfl, rfl⟩ := he
  exact ⟨hl, hr⟩
theorem slice_len {α : Type} {d : Kd α} {e : Nat} {W : World} {A : Option Addr} {n c : Nat} {xs : List α} (h : (Kd.slice e d).K W xs (Value.slice A n c).cells.toList) : n = xs.length := by
  obtain ⟨A', c', he, hl, hr⟩ := h
  simp [Value.cells] at he
  exact he.2.1
section
variable {P : Program} {ops : Array Oper} {rest : List Oper} {o : Oper} {a : Act} {Q : Exit → Act → World → Prop} {α : Type}
end
end Go.Proofs.YtglcdgalimgkeaaDoor.Open
namespace Go.Proofs.YtglcdgalimgkeaaDoor
open Go.RowKit Go.Proofs.YtglcdgalimgkeaaDoorW.PrintWords Go.Proofs.YtglcdgalimgkeaaDoorW.PrintLast Go.Proofs.YtglcdgalimgkeaaDoorW.PrintMore
/-! The z-lemmas: a step of a proof that stands as a default argument (zip.py writes their names). -/
theorem zW {p q : Prop} (h : p) (f : p → q := by intro z; repeat (first | (with_reducible first | exact z | apply below_alloc | apply pw_below_drewN | apply below_drew1) | exact z)) : q := f h
theorem zX {p e q : Prop} (h : p) (y : e) (f : p → e → q := by intro z y; repeat (first | (with_reducible first | exact z | apply below_alloc | apply pw_below_drewN | apply below_drew1 | refine below_set ?_ y) | exact z)) : q := f h y
theorem zB {p q : Prop} (h : p) (f : p → q := by intro z; (with_reducible repeat (first | refine blk_drewN ?_ _ | refine blk_drew ?_ | refine blk_alloc ?_ _)); exact z) : q := f h
theorem zR {p q : Prop} (h : p) (f : p → q := by intro z; (with_reducible repeat (first | apply Kd.R_alloc | apply Kd.R_drewN | apply Kd.R_drew)); exact z) : q := f h
theorem zC {p q : Prop} (h : p) (f : p → q := by intro z; repeat (first | (with_reducible exact z) | (with_reducible refine Kd.C_alloc ?_ _) | (with_reducible refine Kd.C_drewN ?_ _) | (with_reducible refine Kd.C_drew ?_) | exact z)) : q := f h
theorem zA {p : Prop} (h : p := by first | (with_reducible assumption) | assumption) : p := h
theorem zE {p : Prop} (h : p := by first | rfl | (simp; done) | (simp [*]; done)) : p := h
end Go.Proofs.YtglcdgalimgkeaaDoor
