-- PRINTED by print.py (a twelfth state) out of the translation. Not trusted: Lean checks it.
import Derived.Test.YtglcdgalimgkeaaDoorPJBx0
import Derived.RangeFuncNested
import Derived.RangeFuncBound
import Derived.RangeFuncCalls
import Derived.RangeFuncLeaves
import Derived.RangeFuncBox
import Derived.Shelf.Abstract
import Derived.Shelf.RegionOpen
import Derived.OwnWalkIn
import Derived.TacticsInMore
import Derived.LoopNIn
import Derived.LoopIn
import Derived.OneCell
import Derived.BigQuiet
import Derived.Deep.RegionWith
import Derived.Deep.RegionHeld3
import Derived.Deep.RegionLaw
import Derived.IntWalk
import Derived.Lib.SliceRun
import Derived.Laws.EntriesVeiled
import Derived.Sort.QuietIn
import Derived.Deep.RegionLawGrows
namespace Go.Proofs.YtglcdgalimgkeaaDoor.PJB
open Go.RowKit Go.Proofs.YtglcdgalimgkeaaDoorW.PrintWords Go.Proofs.YtglcdgalimgkeaaDoorW.PrintLast Go.Proofs.YtglcdgalimgkeaaDoorW.PrintMore
attribute [local go_sem] max2_int min2_int max_two min_two max_three min_three max_four min_four   -- for this text's walks alone
set_option linter.unusedVariables false
set_option linter.unusedSimpArgs false

attribute [local go_sem] Oper.semAt_some
open Go.Shelf
-- given by hand: jd0
/-! A region that draws its order, inside the widest fence, with one condition S on the world that holds behind each of its operations: reads are taken first. (In the way of the kit's own laws for the walk without a fence.) -/
section
variable {F : Fence} {n : Nat} {P : Program} {ops : Array Oper} {Q : Exit → Act → World → Prop} {md : Region.Mode} {S : World → Prop}
/-- No operation is a defer statement. -/
def jh_nd (ops : Array Oper) : Bool := ops.all fun o => match o.op with | .defer _ => false | _ => true
theorem jh_nd_of (h : jh_nd ops = true) {i : Nat} {o : Oper} (hi : ops[i]? = some o) : ∀ c, o.op ≠ .defer c := fun c hc => by
 obtain ⟨hl, rfl⟩ := Array.getElem?_eq_some_iff.1 hi
 have := Array.all_eq_true.1 h i hl
 rw [hc] at this
 cases this
theorem jh_op (hF : ∀ f, F.fn f) (hnd : jh_nd ops = true) {i : Nat} {o : Oper} {v : Value} {a : Act} (hi : ops[i]? = some o) (hy : YieldsIf P ops S o v a) {K : Act → World → Prop} {w : World} (hS : S w) (h : K (a.put o.dst v) w) : wpOpIn F n P ops Q i K a w := by
 unfold wpOpIn
 simp only [hi]
 rcases hy with ⟨hw, hv⟩ | ⟨hw, rfl⟩
 ·simp only [hw, if_true, Oper.wpIn, Oper.semAt_plain F _ _ (jh_nd_of hnd hi), hv w hS, Oper.uponIn]
  exact ⟨fun f _ => hF f, h⟩
 ·simp only [hw, Bool.false_eq_true, if_false]
  exact ⟨fun f _ => hF f, h⟩
theorem jh_put (hnd : jh_nd ops = true) {j : Nat} {oi oj : Oper} {v : Value} (hj : ops[j]? = some oj) (hap : oi.apart ops oj = true) (hsi : ∀ cs b, oi.op ≠ .select cs b) (hsj : ∀ cs b, oj.op ≠ .select cs b)
  (hQ : ∀ c a w, Q (.panic c) (a.put oi.dst v) w → Q (.panic c) a w) {K : Act → World → Prop} {a : Act} {w : World} (hy : YieldsIf P ops S oi v a) (h : wpOpIn F n P ops Q j K (a.put oi.dst v) w) :
  wpOpIn F n P ops Q j (fun a' w' => YieldsIf P ops S oi v a' ∧ K (a'.put oi.dst v) w') a w := by
 have hd := jh_nd_of hnd hj
 obtain ⟨h1, h2, h3⟩ := Oper.apart_spec hap
 have keep : ∀ (a : Act), YieldsIf P ops S oi v a → ∀ u, YieldsIf P ops S oi v (a.put oj.dst u) := fun a hy u => hy.of_same (execOp_put oi hsi a oj.dst u h3) (wanted_put oi a oj.dst u h3)
 unfold wpOpIn at *
 simp only [hj] at *
 rw [wanted_put oj a oi.dst v h1, about_put oj w a oi.dst v h1] at h
 split
 ·rename_i hw
  simp only [hw, if_true] at h
  unfold Oper.wpIn at *
  rw [about_put oj w a oi.dst v h1] at h
  refine ⟨h.1, ?_⟩
  have h := h.2
  rw [Oper.semAt_plain F _ _ hd] at h ⊢
  rw [execOp_put oj hsj a oi.dst v h1] at h
  generalize (execOp a.eval oj).run P w = r at *
  cases r with
  | ok x w' =>
   cases x <;> simp only [Oper.uponIn] at h ⊢
   case value u => exact ⟨keep a hy u, by rw [← Act.put_comm a v u h2]; exact h⟩
   case skip => exact ⟨keep a hy _, by rw [← Act.put_comm a v undef h2]; exact h⟩
   case defer d => exact ⟨(show YieldsIf P ops S oi v { a with defers := d :: a.defers } from hy.of_same rfl rfl).of_same (execOp_put oi hsi _ oj.dst _ h3) (wanted_put oi _ oj.dst _ h3), by rw [← Act.put_comm _ v undef h2, ← Act.put_defers]; exact h⟩
   case enter f args =>
    refine ⟨h.1, CallsIn.mono h.2 fun e w'' he => ?_⟩
    cases e with
    | returned u => exact ⟨keep a hy u, by rw [← Act.put_comm a v u h2]; exact he⟩
    | panicked c => exact hQ _ _ _ he
    | outgrown => exact he
   case row row args => exact ⟨h.1, RowsIn.mono h.2 fun u w'' he => ⟨keep a hy u, by rw [← Act.put_comm a v u h2]; exact he⟩⟩
   case round l f tmps assign body =>
    refine ⟨h.1, RoundIn.mono h.2 fun e w'' he => ?_⟩
    cases e with
    | returned u => exact ⟨keep a hy u, by rw [← Act.put_comm a v u h2]; exact he⟩
    | panicked c => exact hQ _ _ _ he
    | outgrown => exact he
  | halt x w' =>
   cases x <;> simp only [Oper.uponIn] at h ⊢
   case panic u => exact hQ _ _ _ h
 ·rename_i hw
  simp only [hw] at h
  exact ⟨h.1, keep a hy _, by rw [← Act.put_comm a v undef h2]; exact h.2⟩
/-- All that a listed operation waits for is listed. -/
def jD (md : Region.Mode) (ops : Array Oper) (listed : Array Bool) : Prop := ∀ (k : Nat) (o : Oper), ops[k]? = some o → listed.getD k false = true → ∀ e ∈ o.after, Region.binds md e = true → listed.getD e.on false = true
theorem jD_set {listed : Array Bool} {j : Nat} (h : jD md ops listed) (hj : j ∈ Region.ready md ops listed) : jD md ops (listed.setIfInBounds j true) := by
 intro k o hk hl e he hb
 have up : ∀ m, listed.getD m false = true → (listed.setIfInBounds j true).getD m false = true := fun m hm => by
  by_cases hjm : j = m
  ·subst hjm
   rcases Nat.lt_or_ge j listed.size with h' | h'
   ·simp [h']
   ·simp [Array.getElem?_eq_none h'] at hm
  ·rw [getD_set_ne false hjm]; exact hm
 by_cases hjk : j = k
 ·subst hjk
  obtain ⟨_, o', ho', hall⟩ := mem_ready.1 hj
  rw [hk] at ho'
  cases ho'
  exact up _ (hall e he hb)
 ·rw [getD_set_ne false hjk] at hl
  exact up _ (h k o hk hl e he hb)
/-- Operation c waits, through others, for each one ahead of it. -/
def jh_chain (md : Region.Mode) (ops : Array Oper) (c : Nat) : Bool := (List.range c).all fun i => (List.range (c + 1)).any fun p => decide (i < p) && (match ops[p]? with | some o => o.after.any (fun e => Region.binds md e && e.on == i) | none => false)
theorem jh_listed {listed : Array Bool} {c : Nat} (hD : jD md ops listed) (hc : c ∈ Region.ready md ops listed) (hch : jh_chain md ops c = true) : ∀ d i, c - i = d → i < c → listed.getD i false = true := by
 intro d
 induction d using Nat.strongRecOn with
 | _ d ih =>
  intro i hd hi
  have h1 := List.all_eq_true.1 hch i (List.mem_range.2 hi)
  obtain ⟨p, hp, h2⟩ := List.any_eq_true.1 h1
  have hpc := List.mem_range.1 hp
  rw [Bool.and_eq_true, decide_eq_true_eq] at h2
  obtain ⟨hip, h3⟩ := h2
  cases ho : ops[p]? with
  | none => rw [ho] at h3; cases h3
  | some o =>
   rw [ho] at h3
   obtain ⟨k, hk, h4⟩ := Array.any_eq_true.1 h3
   rw [Bool.and_eq_true, beq_iff_eq] at h4
   have hm : o.after[k] ∈ o.after := Array.getElem_mem hk
   rw [← h4.2]
   by_cases hpe : p = c
   ·subst hpe
    obtain ⟨_, o', ho', hall⟩ := mem_ready.1 hc
    rw [ho] at ho'
    cases ho'
    exact hall _ hm h4.1
   ·exact hD p o ho (ih (c - p) (by omega) p rfl (by omega)) _ hm h4.1
theorem jh_getD {listed : Array Bool} {i : Nat} (h : listed.getD i false = true) : listed.getD i true = true := by
 rcases Nat.lt_or_ge i listed.size with h' | h'
 ·simpa [h'] using h
 ·simp [Array.getElem?_eq_none h'] at h
/-- Whatever order is picked from here on; S holds behind each operation but c, which comes last of those that S serves. -/
def jhAny (F : Fence) (n : Nat) (P : Program) (md : Region.Mode) (ops : Array Oper) (Q : Exit → Act → World → Prop) (S : World → Prop) (c : Nat) : Nat → Array Bool → Act → World → Prop
 | 0, listed, a, w => Region.ready md ops listed = [] ∧ Q .normal a w
 | fuel + 1, listed, a, w => (Region.ready md ops listed = [] → Q .normal a w) ∧
  ∀ i ∈ Region.ready md ops listed, (i = c → wpOpIn F n P ops Q i (wpAnyIn F n P md ops Q fuel (listed.setIfInBounds i true)) a w) ∧
   (i ≠ c → wpOpIn F n P ops Q i (fun a' w' => S w' ∧ jhAny F n P md ops Q S c fuel (listed.setIfInBounds i true) a' w') a w)
theorem jh_any {c : Nat} : ∀ (fuel : Nat) (listed : Array Bool) (a : Act) (w : World), jhAny F n P md ops Q S c fuel listed a w → wpAnyIn F n P md ops Q fuel listed a w
 | 0, _, _, _, h => h
 | fuel + 1, _, _, _, h => ⟨h.1, fun i hi => by
  by_cases hic : i = c
  ·exact (h.2 i hi).1 hic
  ·exact wpOpIn_mono (fun a' w' h' => jh_any fuel _ a' w' h'.2) ((h.2 i hi).2 hic)⟩
theorem jh_first (hF : ∀ f, F.fn f) (hnd : jh_nd ops = true) {c i : Nat} {oi : Oper} {v : Value} (hic : i < c) (hch : jh_chain md ops c = true) (hi : ops[i]? = some oi) (hsel : ∀ (j : Nat) (o : Oper) cs b, ops[j]? = some o → o.op ≠ .select cs b) (hQ : ∀ c a w, Q (.panic c) (a.put oi.dst v) w → Q (.panic c) a w) :
  ∀ (fuel : Nat) (listed : Array Bool) (a : Act) (w : World), jD md ops listed →
   (∀ j oj, ops[j]? = some oj → j ≠ i → listed.getD j true = false → (∀ e ∈ oj.after, Region.binds md e = true → e.on ≠ i) → oi.apart ops oj = true) →
   i ∈ Region.ready md ops listed → YieldsIf P ops S oi v a → S w →
   jhAny F n P md ops Q S c fuel (listed.setIfInBounds i true) (a.put oi.dst v) w → jhAny F n P md ops Q S c (fuel + 1) listed a w := by
 have hnc : i ≠ c := Nat.ne_of_lt hic
 intro fuel
 induction fuel with
 | zero =>
  intro listed a w _ _ hr hy hS H
  refine ⟨fun h => (by rw [h] at hr; cases hr), fun j hj => ?_⟩
  by_cases hji : j = i
  ·subst hji; exact ⟨fun e => absurd e hnc, fun _ => jh_op hF hnd hi hy hS ⟨hS, H⟩⟩
  ·have := ready_mono hj hji
   rw [H.1] at this
   cases this
 | succ fuel ih =>
  intro listed a w hD hfree hr hy hS H
  refine ⟨fun h => (by rw [h] at hr; cases hr), fun j hj => ?_⟩
  by_cases hji : j = i
  ·subst hji; exact ⟨fun e => absurd e hnc, fun _ => jh_op hF hnd hi hy hS ⟨hS, H⟩⟩
  ·have hjc : j ≠ c := fun e => by
    subst e
    have h1 := jh_getD (jh_listed hD hj hch _ i rfl hic)
    rw [(mem_ready.1 hr).1] at h1
    cases h1
   refine ⟨fun e => absurd e hjc, fun _ => ?_⟩
   have h1 := (H.2 j (ready_mono hj hji)).2 hjc
   obtain ⟨hjun, oj, hoj, hall⟩ := mem_ready.1 hj
   have hnot : ∀ e ∈ oj.after, Region.binds md e = true → e.on ≠ i := fun e he hb heq => by
    have h1 := hall e he hb
    have h0 := (mem_ready.1 hr).1
    rw [heq] at h1
    rw [jh_getD h1] at h0
    cases h0
   have h2 := jh_put hnd hoj (hfree j oj hoj hji hjun hnot) (fun cs b => hsel i oi cs b hi) (fun cs b => hsel j oj cs b hoj) hQ hy h1
   have hfree' : ∀ k ok, ops[k]? = some ok → k ≠ i → (listed.setIfInBounds j true).getD k true = false → (∀ e ∈ ok.after, Region.binds md e = true → e.on ≠ i) → oi.apart ops ok = true := fun k ok hk hki hun hno => by
    refine hfree k ok hk hki ?_ hno
    by_cases hjk : j = k
    ·subst hjk; exact hjun
    ·rw [getD_set_ne true hjk] at hun; exact hun
   refine wpOpIn_mono (fun a' w' h3 => ⟨h3.2.1, ih (listed.setIfInBounds j true) a' w' (jD_set hD hj) hfree' (ready_mono hr (Ne.symm hji)) h3.1 h3.2.1 ?_⟩) h2
   rw [Array.setIfInBounds_comm _ _ hji]
   exact h3.2.2
/-- The state of the walk: the rest of the region, and that the listed ones are closed. -/
def jhAt (F : Fence) (n : Nat) (P : Program) (md : Region.Mode) (ops : Array Oper) (Q : Exit → Act → World → Prop) (S : World → Prop) (c fuel : Nat) (listed : Array Bool) (a : Act) (w : World)   : Prop := (∀ f, F.fn f) → jh_nd ops = true → jD md ops listed → jhAny F n P md ops Q S c fuel listed a w
theorem jh_take {oi : Oper} {v : Value} {c fuel : Nat} {listed : Array Bool} {a : Act} {w : World} (hch : jh_chain md ops c = true) (i : Nat) (hS : S w) (hi : ops.toList[i]? = some oi) (hic : i < c) (hs : Region.noSelect ops = true) (hf : Region.free md ops listed i = true) (hr : (Region.ready md ops listed).contains i = true)
  (hQ : ∀ c a w, Q (.panic c) (a.put oi.dst v) w → Q (.panic c) a w) (hw : Region.wanted oi (yielded ops a.tmps) = true) (hy : ∀ w, S w → (execOp a.eval oi).run P w = .ok (.value v) w)
  (h : jhAt F n P md ops Q S c fuel (listed.setIfInBounds i true) (a.put oi.dst v) w) : jhAt F n P md ops Q S c (fuel + 1) listed a w := fun hF hnd hD =>
 jh_first hF hnd hic hch (by simpa using hi) (Region.noSelect_spec hs) hQ fuel listed a w hD (Region.free_spec (by simpa using hi) hf) (by simpa using hr) (Or.inl ⟨hw, hy⟩) hS (h hF hnd (jD_set hD (by simpa using hr)))
theorem jh_skip {oi : Oper} {c fuel : Nat} {listed : Array Bool} {a : Act} {w : World} (hch : jh_chain md ops c = true) (i : Nat) (hS : S w) (hi : ops.toList[i]? = some oi) (hic : i < c) (hs : Region.noSelect ops = true) (hf : Region.free md ops listed i = true) (hr : (Region.ready md ops listed).contains i = true)
  (hQ : ∀ c a w, Q (.panic c) (a.put oi.dst undef) w → Q (.panic c) a w) (hw : Region.wanted oi (yielded ops a.tmps) = false)
  (h : jhAt F n P md ops Q S c fuel (listed.setIfInBounds i true) (a.put oi.dst undef) w) : jhAt F n P md ops Q S c (fuel + 1) listed a w := fun hF hnd hD =>
 jh_first hF hnd hic hch (by simpa using hi) (Region.noSelect_spec hs) hQ fuel listed a w hD (Region.free_spec (by simpa using hi) hf) (by simpa using hr) (Or.inr ⟨hw, rfl⟩) hS (h hF hnd (jD_set hD (by simpa using hr)))
theorem jh_call {o : Oper} {c fuel : Nat} {listed : Array Bool} {a : Act} {w : World} (i : Nat) (hr : Region.ready md ops listed = [i]) (ho0 : ops.toList[i]? = some o) (hic : i < c) (hw : Region.wanted o (yielded ops a.tmps) = true)
  (h : ∀ K' : Act → World → Prop, Shut (∀ a w, S w → jhAt F n P md ops Q S c fuel (listed.setIfInBounds i true) a w → K' a w) → Oper.wpIn F n P o a w K' Q) : jhAt F n P md ops Q S c (fuel + 1) listed a w := by
 have ho : ops[i]? = some o := by simpa using ho0
 intro hF hnd hD
 have hi : i ∈ Region.ready md ops listed := by rw [hr]; exact List.mem_singleton.2 rfl
 refine ⟨fun h0 => absurd (hr ▸ h0) (by simp), fun j hj => ?_⟩
 rw [hr] at hj
 rw [List.mem_singleton.1 hj]
 refine ⟨fun e => absurd e (Nat.ne_of_lt hic), fun _ => ?_⟩
 unfold wpOpIn
 simp only [ho]
 rw [if_pos hw]
 exact h _ (fun a w hS hW => ⟨hS, hW hF hnd (jD_set hD hi)⟩)
theorem jh_last {o : Oper} {c fuel : Nat} {listed : Array Bool} {a : Act} {w : World} (hr : Region.ready md ops listed = [c]) (ho0 : ops.toList[c]? = some o) (hw : Region.wanted o (yielded ops a.tmps) = true)
  (h : ∀ K' : Act → World → Prop, Shut (∀ a w, wpAnyIn F n P md ops Q fuel (listed.setIfInBounds c true) a w → K' a w) → Oper.wpIn F n P o a w K' Q) : jhAt F n P md ops Q S c (fuel + 1) listed a w := by
 have ho : ops[c]? = some o := by simpa using ho0
 intro hF hnd hD
 refine ⟨fun h0 => absurd (hr ▸ h0) (by simp), fun j hj => ?_⟩
 rw [hr] at hj
 rw [List.mem_singleton.1 hj]
 refine ⟨fun _ => ?_, fun e => absurd rfl e⟩
 unfold wpOpIn
 simp only [ho]
 rw [if_pos hw]
 exact h _ (fun a w hW => hW)
theorem jh_last_skip {o : Oper} {c fuel : Nat} {listed : Array Bool} {a : Act} {w : World} (hr : Region.ready md ops listed = [c]) (ho0 : ops.toList[c]? = some o) (hw : Region.wanted o (yielded ops a.tmps) = false)
  (h : wpAnyIn F n P md ops Q fuel (listed.setIfInBounds c true) (a.put o.dst undef) w) : jhAt F n P md ops Q S c (fuel + 1) listed a w := by
 have ho : ops[c]? = some o := by simpa using ho0
 intro hF hnd hD
 refine ⟨fun h0 => absurd (hr ▸ h0) (by simp), fun j hj => ?_⟩
 rw [hr] at hj
 rw [List.mem_singleton.1 hj]
 refine ⟨fun _ => ?_, fun e => absurd rfl e⟩
 unfold wpOpIn
 simp only [ho]
 rw [if_neg (by rw [hw]; decide)]
 exact ⟨fun f _ => hF f, h⟩
theorem jh_take2 {oi : Oper} {v : Value} {fuel : Nat} {listed : Array Bool} {a : Act} {w : World} (i : Nat) (hi : ops.toList[i]? = some oi) (hs : Region.noSelect ops = true) (hf : Region.free md ops listed i = true) (hr : (Region.ready md ops listed).contains i = true)
  (hQ : ∀ c a w, Q (.panic c) (a.put oi.dst v) w → Q (.panic c) a w) (hw : Region.wanted oi (yielded ops a.tmps) = true) (hy : ∀ w, (execOp a.eval oi).run P w = .ok (.value v) w) (hab : ∀ w, oi.about P w a.eval = none)
  (h : wpAnyIn Fence.wide n P md ops Q fuel (listed.setIfInBounds i true) (a.put oi.dst v) w) : wpAnyIn Fence.wide n P md ops Q (fuel + 1) listed a w := wpAnyIn_take rfl (by simpa using hi) hs hf hr hQ ⟨Or.inl ⟨hw, hy⟩, hab⟩ h
theorem jh_skip2 {oi : Oper} {fuel : Nat} {listed : Array Bool} {a : Act} {w : World} (i : Nat) (hi : ops.toList[i]? = some oi) (hs : Region.noSelect ops = true) (hf : Region.free md ops listed i = true) (hr : (Region.ready md ops listed).contains i = true)
  (hQ : ∀ c a w, Q (.panic c) (a.put oi.dst undef) w → Q (.panic c) a w) (hw : Region.wanted oi (yielded ops a.tmps) = false) (hab : ∀ w, oi.about P w a.eval = none)
  (h : wpAnyIn Fence.wide n P md ops Q fuel (listed.setIfInBounds i true) (a.put oi.dst undef) w) : wpAnyIn Fence.wide n P md ops Q (fuel + 1) listed a w := wpAnyIn_take rfl (by simpa using hi) hs hf hr hQ ⟨Or.inr ⟨hw, rfl⟩, hab⟩ h
theorem jh_begin {id c : Nat} {a : Act} {w : World} (hm : P.follows .mixedOrders = true) (hF : ∀ f, F.fn f) (hnd : jh_nd ops = true) (h : jhAt F n P .any ops Q S c ops.size (Array.replicate ops.size false) a w.drew) : (Code.region id ops true).wpIn F n P Q a w :=
 wpIn_region_any hm (jh_any _ _ _ _ (h hF hnd (fun k o _ hl => by
  rw [show (Array.replicate ops.size false).getD k false = false from by simp only [Array.getD_eq_getD_getElem?, Array.getElem?_replicate]; split <;> rfl] at hl
  cases hl)))
end

end Go.Proofs.YtglcdgalimgkeaaDoor.PJB
