-- PRINTED by print.py (a twelfth state) out of the translation. Not trusted: Lean checks it.
import Derived.Test.YtglcdgalimgkeaaDoorPJBx0
import Derived.Test.YtglcdgalimgkeaaDoorPJBx11
import Derived.Test.YtglcdgalimgkeaaDoorPJBx14
import Derived.Test.YtglcdgalimgkeaaDoorPJBx15
import Derived.RangeFuncNested
import Derived.RangeFuncBound
import Derived.RangeFuncCalls
import Derived.RangeFuncLeaves
import Derived.RangeFuncBox
import Derived.Shelf.Abstract
import Derived.Shelf.RegionOpen
import Derived.OwnWalkIn
import Derived.TacticsInMore
import Derived.LoopNIn
import Derived.LoopIn
import Derived.OneCell
import Derived.BigQuiet
import Derived.Deep.RegionWith
import Derived.Deep.RegionHeld3
import Derived.Deep.RegionLaw
import Derived.IntWalk
import Derived.Lib.SliceRun
import Derived.Laws.EntriesVeiled
import Derived.Sort.QuietIn
import Derived.Deep.RegionLawGrows
namespace Go.Proofs.YtglcdgalimgkeaaDoor.PJB
open Go.RowKit Go.Proofs.YtglcdgalimgkeaaDoorW.PrintWords Go.Proofs.YtglcdgalimgkeaaDoorW.PrintLast Go.Proofs.YtglcdgalimgkeaaDoorW.PrintMore
attribute [local go_sem] max2_int min2_int max_two min_two max_three min_three max_four min_four   -- for this text's walks alone
set_option linter.unusedVariables false
set_option linter.unusedSimpArgs false

attribute [local go_sem] Oper.semAt_some
open Go.Shelf
-- given by hand: jd5
/-! What Proven answers. -/
theorem jd_append_in {F : Fence} {n : Nat} {P : Program} {ops : Array Oper} {rest : List Oper} {o : Oper} {a : Act} {Q : Exit → Act → World → Prop} {α : Type} (d : Kd α) {w0 W : World} (base : Nat) (hgd : o.guard = none) (s x : Operand) (t e : TypeId) (z : Value) (bytes : Nat)
  (ho : o.op = .call { callee := .builtin .append, args := #[s, x], argTypes := #[t, t] })
  (ht : P.underlying t = some (.slice e)) (hinfo : (P.info? e).map (fun i => (i.zero, i.size, i.bytes)) = some (some z, d.sz, bytes)) (hz : z.cells.size = d.sz) (hs0 : 0 < d.sz) (hb0 : 0 < bytes)
  (v : Value) (xs : List α) (p : α) (cs : List Value) (ok okp : Nat → Prop) (hs : a.eval s = v) (hx : a.eval x = .slice (some ⟨W.heap.size, 0, none⟩) 1 1) (hp : d.M W base okp p cs) (hokp : ∀ k, okp k → ok k ∧ some k ≠ v.ownBlock) (hfresh : ∀ k, W.heap.size ≤ k → ok k)
  (HO : d.R e W base ok v xs) (HB : Below base w0 W) (hbase : base ≤ W.heap.size) (hl : (xs.length + 1) * bytes ≤ 140737488355328)
  (h : ∀ v1 w1, d.R e w1 base ok v1 (xs ++ [p]) → Below base w0 w1 → W.grownBy w1 v.ownBlock → wpListIn F n P ops Q rest (a.put o.dst v1) w1) :
  wpListIn F n P ops Q (o :: rest) a (W.alloc (.cells cs.toArray e)) := by
 obtain ⟨h0, inner, hown, hr⟩ := HO
 obtain ⟨i0, hi, hzz⟩ := Option.map_eq_some_iff.1 hinfo
 simp only [Prod.mk.injEq] at hzz
 obtain ⟨hz0, hz1, hz2⟩ := hzz
 have hlen : xs.length + 1 ≤ 140737488355328 := Nat.le_trans (Nat.le_mul_of_pos_right _ hb0) hl
 have hys := d.K_len (d.K_of_M hp)
 refine wpListIn_plain hgd fun K hK => ?_
 obtain ⟨v1, w1, hrun, hown1, hg, _, hat⟩ := run_append_own_at (P := P) (W.alloc (.cells cs.toArray e)) base t o.type e i0 z d.sz bytes ht hi hz0 hz1 hz2 hz hs0 v xs.length inner (hown.alloc _) ⟨W.heap.size, 0, none⟩ 1 1 cs (by rw [hys]; simp)
  (by simpa using World.news_of_block (cs := cs.toArray) (t := e) (fr := (0, 0)) (World.alloc_heap_new W (.cells cs.toArray e))) (d.K_one (d.K_of_M hp)) (by simp only [maxLen]; omega) hl (by simp; omega)
 unfold Oper.wpIn
 refine ⟨?_, ?_⟩
 ·simp [Oper.about, ho, resolve, Target.leads, Sem.run_pure]
 ·rw [Oper.semAt_plain F _ _ (by rw [ho]; intro c hc'; cases hc')]
  simp only [execOp, ho, resolve, invoke, builtin, Sem.run_bind, Sem.run_pure, Result.andThen_ok, List.map_toArray, List.map_cons, List.map_nil, hs, hx, hrun]
  have hg2 := World.grownBy.trans (World.grownBy_alloc W (.cells cs.toArray e) v.ownBlock) hg
  exact hK _ _ (h v1 w1 (Kd.R_appended h0 hr hp hokp hfresh hown1 hg2 (hat.imp id (fun hat => ⟨_, hat, by simp⟩))) ((HB.alloc hbase _).grown hg (by simp; omega) (own_base hown)) hg2)
def jp_step (owner : Int) (out : List S79) (x : JF) : List S79 := if x.2.1 = owner ∧ x.2.2.f0 = 1 ∧ x.2.2.f1 = wrap64 (owner - 1) then (match out.getLast? with
  | some z => if z.f1 = x.1 then out.dropLast ++ [⟨z.f0, wrap64 (z.f1 + 1)⟩] else out ++ [⟨x.1, wrap64 (x.1 + 1)⟩]
  | none => [⟨x.1, wrap64 (x.1 + 1)⟩]) else out
def jp_run (owner : Int) (xs : List JF) : List S79 := xs.foldl (jp_step owner) []
theorem jp_run_snoc (owner : Int) (xs : List JF) (x : JF) : jp_run owner (xs ++ [x]) = jp_step owner (jp_run owner xs) x := by
 unfold jp_run
 rw [List.foldl_append, List.foldl_cons, List.foldl_nil]
theorem jp_step_len (owner : Int) (out : List S79) (x : JF) : (jp_step owner out x).length ≤ out.length + 1 := by
 unfold jp_step
 split
 ·split
  ·split <;> simp <;> omega
  ·simp
 ·omega
def jp_res (line : List S74) (from_ : Int) (a b : List S54) (owner : Int) : List S79 := jp_run owner (jd_F line (jd_K line from_) from_ a b a.length)
def judge_Proven.f (k : Nat) (l0 : List S74) (a1 : Int) (l2 l3 : List S54) (a4 : Int) : Option (List S79 × Int) := (judge_evidence_valid.f k l0 a1 l2 l3).bind fun v => if v = true then some (jp_res l0 a1 l2 l3 a4, 0) else some ([], 380)
theorem judge_Proven.mono : ∀ l0 a1 l2 l3 a4 k, LeO (judge_Proven.f k l0 a1 l2 l3 a4) (judge_Proven.f (k + 1) l0 a1 l2 l3 a4) := by
 intro l0 a1 l2 l3 a4 k r h
 unfold judge_Proven.f at h ⊢
 obtain ⟨v, hv, h⟩ := Option.bind_eq_some_iff.1 h
 rw [judge_evidence_valid.mono _ _ _ _ _ _ hv, Option.bind_some]
 exact h

end Go.Proofs.YtglcdgalimgkeaaDoor.PJB
