/- The table of rules holds what the rows list; no condition. -/
import Derived.Test.YtglcdgalimgkeaaDoorRows
import Derived.Test.YtglcdgalimgkeaaDoorPJBx12
import Derived.LaidMore
import Derived.LaidHandle
import Derived.Stop.Joined
import Derived.ProofKit
import Derived.OpenShut
import Derived.ChangeOld
namespace Go.Proofs.YtglcdgalimgkeaaDoor.PJB
open Go.ChangeShapes Go.WideShapes Go.ChangeAt Go.RowKit
set_option linter.unusedVariables false
set_option linter.unusedSimpArgs false
set_option maxRecDepth 100000
/-- One rule of the table, out of what the table reads as. -/
theorem rule_of {W : World} {fuel : Nat} {cs : List Value} {b : Bool} {c : UInt8} {r : List UInt8} {f0 : Nat} {q : List MemPlace}
    (h : DataW.trod (funcToken Tryd.prog) Tryd.prog W 0 (fun _ => true) true fuel 116 cs = some (.agg [.lit (.bool b), .held (c :: r)], q))
    (hone : ((List.range Tryd.prog.funcs.size).filter fun f => (Tryd.prog.funcs[f]?).any (·.name.toUTF8.data.toList == c :: r)) = [f0]) : cs = [.bool b, .func (.func f0) #[] #[]] := by
  obtain ⟨xs, n, _, he, hl, hlen, hf⟩ := DataW.trod_struct Tryd.underlying116 h
  rw [show Tryd.prog.cellsOf 116 = 2 from by kernel_rfl] at hl
  match cs, hl with
  | [u0, u1], _ =>
    match xs, hlen with
    | [x0, x1], _ =>
      have h0 := hf 0 _ rfl
      have h1 := hf 1 _ rfl
      simp only [Prod.mk.injEq, DataW.agg.injEq, List.map_cons, List.map_nil, List.cons.injEq] at he
      obtain ⟨⟨e0, e1, _⟩, _⟩ := he
      have c4 : Tryd.prog.cellsOf 4 = 1 := by kernel_rfl
      have c114 : Tryd.prog.cellsOf 114 = 1 := by kernel_rfl
      simp [c4, c114] at h0 h1
      obtain ⟨b', hb, hx⟩ := DataW.trod_bool Tryd.underlying4 h0
      have eb : u0 = .bool b' := by simpa using hb
      have eb' : b' = b := by rw [hx] at e0; simpa [eq_comm] using e0
      obtain ⟨y, z⟩ := x1
      simp only at e1
      subst e1
      have ef := Go.func_of_trod (f0 := f0) Tryd.underlying114 hone h1
      rw [eb, eb', ef]
theorem gRules : Tryd.prog.globalNamed "aircheck/judge.rules" = some 1 := by kernel_rfl
theorem tRules : (Tryd.prog.globals[1]?).map (·.type) = some 145 := by kernel_rfl
theorem gg_of_laid {W : World} (h : laidMetH Tryd.prog [("aircheck/judge.rules", Rows.laid_aircheck_judge_rules)] W) : GG W := by
  obtain ⟨g, t, cs, fuel, p, hg, ht, hv, hd⟩ := h.funcs (List.mem_singleton.2 rfl)
  obtain rfl := Option.some.inj (gRules.symm.trans hg)
  obtain rfl := Option.some.inj (tRules.symm.trans ht)
  obtain ⟨xs, n, _, he, hl, hlen, hf⟩ := DataW.trod_array Tryd.underlying145 hd
  rw [show Tryd.prog.cellsOf 145 = 10 from by kernel_rfl] at hl
  have c116 : Tryd.prog.cellsOf 116 = 2 := by kernel_rfl
  match xs, hlen with
  | [x0, x1, x2, x3, x4], _ =>
    obtain ⟨y0, z0⟩ := x0
    obtain ⟨y1, z1⟩ := x1
    obtain ⟨y2, z2⟩ := x2
    obtain ⟨y3, z3⟩ := x3
    obtain ⟨y4, z4⟩ := x4
    have he1 := (Prod.mk.inj he).1
    have he2 : [y0, y1, y2, y3, y4] = _ := (DataW.agg.inj he1).symm
    obtain ⟨rfl, rfl, rfl, rfl, rfl⟩ : y0 = _ ∧ y1 = _ ∧ y2 = _ ∧ y3 = _ ∧ y4 = _ := by
      injection he2 with a0 t0
      injection t0 with a1 t1
      injection t1 with a2 t2
      injection t2 with a3 t3
      injection t3 with a4 t4
      exact ⟨a0, a1, a2, a3, a4⟩
    have k0 := rule_of (f0 := 137) (by have := hf 0 (by decide); rw [c116] at this; exact this) (by kernel_rfl)
    have k1 := rule_of (f0 := 138) (by have := hf 1 (by decide); rw [c116] at this; exact this) (by kernel_rfl)
    have k2 := rule_of (f0 := 139) (by have := hf 2 (by decide); rw [c116] at this; exact this) (by kernel_rfl)
    have k3 := rule_of (f0 := 137) (by have := hf 3 (by decide); rw [c116] at this; exact this) (by kernel_rfl)
    have k4 := rule_of (f0 := 137) (by have := hf 4 (by decide); rw [c116] at this; exact this) (by kernel_rfl)
    have hcs : cs.toList = jd_tbl := by
      have h5 : cs.toList = (cs.toList.drop (0 * 2)).take 2 ++ ((cs.toList.drop (1 * 2)).take 2 ++ ((cs.toList.drop (2 * 2)).take 2 ++ ((cs.toList.drop (3 * 2)).take 2 ++ (cs.toList.drop (4 * 2)).take 2))) := by
        generalize cs.toList = l at hl
        match l, hl with
        | [a, b, c, d, e, f, g, h, i, j], _ => rfl
      rw [h5, k0, k1, k2, k3, k4]
      rfl
    intro j v hj
    have hvj := World.var?_cell hg hv j
    rw [hvj, ← Array.getElem?_toList, hcs]
    exact hj
theorem door_met (os : Os) (args : Array Value) : laidMetH Tryd.prog [("aircheck/judge.rules", Rows.laid_aircheck_judge_rules)] ((World.doorLaid Tryd.prog 24 os).forCall (fun _ _ => 0) ⟨#[], args, []⟩).memory :=
  laidMetH_of_parts3 (fuel := 8) (laidMet_of_run' 8 (by kernel_rfl) (by kernel_rfl)) (by kernel_rfl) (by kernel_rfl)
end Go.Proofs.YtglcdgalimgkeaaDoor.PJB
