-- PRINTED by print.py (a twelfth state) out of the translation. Not trusted: Lean checks it.
import Derived.Test.YtgaepndbfpfniaaPFRx0
import Derived.Test.YtgaepndbfpfniaaPFRx13
import Derived.Test.YtgaepndbfpfniaaPFRx6
import Derived.RangeFuncNested
import Derived.RangeFuncBound
import Derived.RangeFuncCalls
import Derived.RangeFuncLeaves
import Derived.RangeFuncBox
import Derived.Shelf.Abstract
import Derived.Shelf.RegionOpen
import Derived.OwnWalkIn
import Derived.TacticsInMore
import Derived.LoopNIn
import Derived.LoopIn
import Derived.OneCell
import Derived.BigQuiet
import Derived.Deep.RegionWith
import Derived.Deep.RegionHeld3
import Derived.Deep.RegionLaw
import Derived.IntWalk
import Derived.Lib.SliceRun
import Derived.Deep.RegionLawGrows
namespace Go.Proofs.Ytgaepndbfpfniaa.PFR
open Go.RowKit Go.Proofs.YtgaepndbfpfniaaW.PrintWords Go.Proofs.YtgaepndbfpfniaaW.PrintLast Go.Proofs.YtgaepndbfpfniaaW.PrintMore
attribute [local go_sem] max2_int min2_int max_two min_two max_three min_three max_four min_four   -- for this text's walks alone
set_option linter.unusedVariables false
set_option linter.unusedSimpArgs false

attribute [local go_sem] Oper.semAt_some
open Go.Shelf
-- given by hand: bd1
theorem bd_wrap {n : Int} (h : -1000000 ≤ n ∧ n ≤ 1000000) : wrap64 n = n := by unfold wrap64; omega
def bd_v (v u l d s x y : Int) : Prop := v < -1000 ∨ 1000 < v ∨ (x = 0 ∧ 0 < v) ∨ (0 < x ∧ wrap64 (u + 1) < v) ∨ (0 < y ∧ wrap64 (l + 1) < v) ∨ (0 < x ∧ 0 < y ∧ wrap64 (d + s) < v)
def bd_bad (h c : List Int) (t : List (List Int)) (x y : Int) : Prop := bd_v (rd (rd_L1 t x) y) (rd (rd_L1 t (x - 1)) y) (rd (rd_L1 t x) (y - 1)) (rd (rd_L1 t (x - 1)) (y - 1)) (if rd h (x - 1) = rd c (y - 1) then 0 else 1) x y
instance (v u l d s x y : Int) : Decidable (bd_v v u l d s x y) := inferInstanceAs (Decidable (v < -1000 ∨ 1000 < v ∨ (x = 0 ∧ 0 < v) ∨ (0 < x ∧ wrap64 (u + 1) < v) ∨ (0 < y ∧ wrap64 (l + 1) < v) ∨ (0 < x ∧ 0 < y ∧ wrap64 (d + s) < v)))
instance (h c : List Int) (t : List (List Int)) (x y : Int) : Decidable (bd_bad h c t x y) := inferInstanceAs (Decidable (bd_v _ _ _ _ _ _ _))
def bd_row (h c : List Int) (t : List (List Int)) (x : Int) : Prop := (rd_L1 t x).length = c.length + 1 ∧ ∀ j : Nat, j < c.length + 1 → ¬ bd_bad h c t x (j : Int)
instance (h c : List Int) (t : List (List Int)) (x : Int) : Decidable (bd_row h c t x) := inferInstanceAs (Decidable ((rd_L1 t x).length = c.length + 1 ∧ ∀ j : Nat, j < c.length + 1 → ¬ bd_bad h c t x (j : Int)))
def bd_ok (h c : List Int) (t : List (List Int)) : Prop := ∀ i : Nat, i < t.length → bd_row h c t (i : Int)
instance (h c : List Int) (t : List (List Int)) : Decidable (bd_ok h c t) := inferInstanceAs (Decidable (∀ i : Nat, i < t.length → bd_row h c t (i : Int)))
theorem bd_fail {h c : List Int} {t : List (List Int)} {X : Option (Int × Bool)} {r1 : Int} {r2 : Bool} (e : (if bd_ok h c t then X else some (0, false)) = some (r1, r2)) {x : Int} (h0 : 0 ≤ x) (h1 : x < (t.length : Int)) (hb : ¬ bd_row h c t x) : r1 = 0 ∧ r2 = false := by
 rw [if_neg (fun hk => hb (by have := hk x.toNat (by omega); rwa [Int.toNat_of_nonneg h0] at this))] at e
 obtain ⟨rfl, rfl⟩ := Prod.mk.inj (Option.some.inj e)
 exact ⟨rfl, rfl⟩
theorem bd_failc {h c : List Int} {t : List (List Int)} {X : Option (Int × Bool)} {r1 : Int} {r2 : Bool} (e : (if bd_ok h c t then X else some (0, false)) = some (r1, r2)) {x y : Int} (h0 : 0 ≤ x) (h1 : x < (t.length : Int)) (k0 : 0 ≤ y) (k1 : y < (c.length : Int) + 1) (hb : bd_bad h c t x y) : r1 = 0 ∧ r2 = false :=
 bd_fail e h0 h1 (fun hr => hr.2 y.toNat (by omega) (by rwa [Int.toNat_of_nonneg k0]))
theorem bd_done {h c : List Int} {t : List (List Int)} {X : Option (Int × Bool)} {r : Int × Bool} (e : (if bd_ok h c t then X else some (0, false)) = some r) {x : Int} (h1 : ¬ x < (t.length : Int)) (hi : ∀ i : Nat, (i : Int) < x → bd_row h c t (i : Int)) : X = some r := by
 rwa [if_pos (show bd_ok h c t from fun i hil => hi i (by omega))] at e
def bd_lp (n : Nat) : Code → Option Code
 | .block i b => if i = n then some b else bd_lp n b
 | .seq a b => match bd_lp n a with
  | some c => some c
  | none => bd_lp n b
 | .loop b => bd_lp n b
 | .scope b => bd_lp n b
 | .cond _ a b => match bd_lp n a with
  | some c => some c
  | none => bd_lp n b
 | _ => none
def bd_rg (n : Nat) : Code → Option Code
 | .region i o d => if i = n then some (.region i o d) else none
 | .block _ b => bd_rg n b
 | .seq a b => match bd_rg n a with
  | some c => some c
  | none => bd_rg n b
 | .loop b => bd_rg n b
 | .scope b => bd_rg n b
 | .cond _ a b => match bd_rg n a with
  | some c => some c
  | none => bd_rg n b
 | _ => none
noncomputable def bd_q12 : Code := ((Try.f32.body.bind (bd_rg 12)).getD .skip)
set_option maxHeartbeats 400000000 in
set_option maxRecDepth 1000000 in
theorem bd_reg12a {A0 A1 : Option Addr} {ad2 ad : Addr} {n0 n1 n2 n cr c0' c1' c2' : Nat} {x y v u l d s : Int} {b : Bool} {T : World} (c3 c4 c5 c6 c7 c11 c12 c13 c14 c15 c16 c17 c18 c19 c20 c21 c22 c23 c24 c25 c26 c27 c28 c29 c30 c31 c32 c33 c34 c35 c36 c37 c38 c39 c40 c41 c42 c43 c44 c45 c46 c47 c48 c49 c50 c51 c52 c53 c54 c55 c56 c57 c58 c59 c60 c61 c62 c63 c64 c65 c66 c67 c68 c69 c70 c71 c72 c73 c74 c75 c76 c77 c78 c79 c80 c81 c82 c83 c84 c85 c86 c87 c88 c89 c90 c91 c92 c93 c94 c95 c96 c97 c98 c99 c100 c101 c102 c103 c104 c105 c106 c107 c108 c109 c110 c111 c112 c113 c114 c115 c116 c117 c118 c119 c120 c121 c122 c123 c124 c125 c126 c127 c128 c129 c130 c131 c132 c133 c134 c135 c136 c137 c138 c139 c140 c141 c142 c143 c144 : Value) (Q : Exit → Act → World → Prop) (hx0 : 0 ≤ x) (hx1 : x < (n2 : Int)) (hy0 : 0 ≤ y) (hy1 : y < (n : Int)) (hys : y ≤ 100000) (x0 : x = 0) (hcw : T.cell? (ad2.add x.toNat) = some (.slice (some ad) n cr)) (hl : 0 < y → T.cell? (ad.add (y - 1).toNat) = some (.int .i64 l)) (hB : bd_v v u l d s x y ↔ b = true) (hx : ∀ (u58 u59 u60 u61 u62 u63 u64 u65 u66 u67 u68 u69 u70 u71 u72 u73 u74 u75 u76 u77 u78 u79 u80 u81 u82 u83 u84 u85 u86 u87 u88 u89 u90 u91 u92 u93 u94 u95 u96 u97 u98 u99 u100 u101 u102 u103 u104 u105 u106 u107 u108 u109 u110 u111 u112 u113 u114 u115 u116 u117 u118 u119 u120 u121 u122 u123 u124 u125 u126 u127 u128 u129 u130 u131 u132 u133 u134 u135 u136 u137 : Value)  (w' : World), Below T.heap.size T w' → Q .normal ⟨List.toArray (.slice A0 n0 c0' :: .slice A1 n1 c1' :: .slice (some ad2) n2 c2' :: c3 :: c4 :: c5 :: c6 :: c7 :: .int .i64 x :: .int .i64 y :: .int .i64 v :: c11 :: c12 :: c13 :: c14 :: c15 :: c16 :: c17 :: c18 :: c19 :: c20 :: c21 :: c22 :: c23 :: c24 :: c25 :: c26 :: c27 :: c28 :: c29 :: c30 :: c31 :: c32 :: c33 :: c34 :: c35 :: c36 :: c37 :: c38 :: c39 :: c40 :: c41 :: c42 :: c43 :: c44 :: c45 :: c46 :: c47 :: c48 :: c49 :: c50 :: c51 :: c52 :: c53 :: c54 :: c55 :: c56 :: c57 :: u58 :: u59 :: u60 :: u61 :: u62 :: u63 :: u64 :: u65 :: u66 :: u67 :: u68 :: u69 :: u70 :: u71 :: u72 :: u73 :: u74 :: u75 :: u76 :: u77 :: u78 :: u79 :: u80 :: u81 :: u82 :: u83 :: u84 :: u85 :: u86 :: u87 :: u88 :: u89 :: u90 :: u91 :: u92 :: u93 :: u94 :: u95 :: u96 :: u97 :: u98 :: u99 :: u100 :: u101 :: u102 :: u103 :: u104 :: u105 :: u106 :: u107 :: u108 :: u109 :: u110 :: u111 :: u112 :: u113 :: u114 :: u115 :: u116 :: u117 :: u118 :: u119 :: u120 :: u121 :: u122 :: u123 :: u124 :: u125 :: u126 :: u127 :: u128 :: u129 :: u130 :: u131 :: u132 :: u133 :: u134 :: u135 :: u136 :: u137 :: .bool b :: c139 :: c140 :: c141 :: c142 :: c143 :: c144 :: []), []⟩ w') :
  Code.wp Try.prog bd_q12 Q ⟨List.toArray (.slice A0 n0 c0' :: .slice A1 n1 c1' :: .slice (some ad2) n2 c2' :: c3 :: c4 :: c5 :: c6 :: c7 :: .int .i64 x :: .int .i64 y :: .int .i64 v :: c11 :: c12 :: c13 :: c14 :: c15 :: c16 :: c17 :: c18 :: c19 :: c20 :: c21 :: c22 :: c23 :: c24 :: c25 :: c26 :: c27 :: c28 :: c29 :: c30 :: c31 :: c32 :: c33 :: c34 :: c35 :: c36 :: c37 :: c38 :: c39 :: c40 :: c41 :: c42 :: c43 :: c44 :: c45 :: c46 :: c47 :: c48 :: c49 :: c50 :: c51 :: c52 :: c53 :: c54 :: c55 :: c56 :: c57 :: c58 :: c59 :: c60 :: c61 :: c62 :: c63 :: c64 :: c65 :: c66 :: c67 :: c68 :: c69 :: c70 :: c71 :: c72 :: c73 :: c74 :: c75 :: c76 :: c77 :: c78 :: c79 :: c80 :: c81 :: c82 :: c83 :: c84 :: c85 :: c86 :: c87 :: c88 :: c89 :: c90 :: c91 :: c92 :: c93 :: c94 :: c95 :: c96 :: c97 :: c98 :: c99 :: c100 :: c101 :: c102 :: c103 :: c104 :: c105 :: c106 :: c107 :: c108 :: c109 :: c110 :: c111 :: c112 :: c113 :: c114 :: c115 :: c116 :: c117 :: c118 :: c119 :: c120 :: c121 :: c122 :: c123 :: c124 :: c125 :: c126 :: c127 :: c128 :: c129 :: c130 :: c131 :: c132 :: c133 :: c134 :: c135 :: c136 :: c137 :: c138 :: c139 :: c140 :: c141 :: c142 :: c143 :: c144 :: []), []⟩ T := by
 conv => arg 2; whnf
 subst x0
 have hcw0 : T.cell? ad2 = some (.slice (some ad) n cr) := by rw [← Addr.add_zero' ad2]; exact hcw
 unfold bd_v at hB
 clear hcw hx0
 have hx0 : (0 : Int) ≤ 0 := Int.le_refl 0
 by_cases b1 : v < -1000
 ·have db1 : decide (v < -1000) = true := decide_eq_true b1
  obtain rfl : b = true := by first | (exact hB.1 (by first | omega | (have := HX0.out; omega) | (have := HY0.out; omega) | (have := HX0.out; have := HY0.out; omega))) | (rw [← Bool.not_eq_true]; exact fun hb => by have := hB.2 hb; first | omega | (have := HX0.out; omega) | (have := HY0.out; omega) | (have := HX0.out; have := HY0.out; omega))
  clear hB
  refine wp_region_quiet_lit (by kernel_rfl) (by kernel_rfl) ?_
  (try simp only [List.append_eq, List.cons_append, List.nil_append])
  repeat (go_big_quiet_step (fail))
  refine wpQuiet_nil ?_
  intro _ hw_
  obtain ⟨nq, hw_⟩ := hw_
  subst hw_
  exact hx _ _ _ _ _ _ _ _ _ _ _ _ _ _ _ _ _ _ _ _ _ _ _ _ _ _ _ _ _ _ _ _ _ _ _ _ _ _ _ _ _ _ _ _ _ _ _ _ _ _ _ _ _ _ _ _ _ _ _ _ _ _ _ _ _ _ _ _ _ _ _ _ _ _ _ _ _ _ _ _ _ (pw_below_drewN (Below.refl _ _) nq)
 ·have db1 : decide (v < -1000) = false := decide_eq_false b1
  by_cases b2 : 1000 < v
  ·have db2 : decide (1000 < v) = true := decide_eq_true b2
   obtain rfl : b = true := by first | (exact hB.1 (by first | omega | (have := HX0.out; omega) | (have := HY0.out; omega) | (have := HX0.out; have := HY0.out; omega))) | (rw [← Bool.not_eq_true]; exact fun hb => by have := hB.2 hb; first | omega | (have := HX0.out; omega) | (have := HY0.out; omega) | (have := HX0.out; have := HY0.out; omega))
   clear hB
   refine wp_region_quiet_lit (by kernel_rfl) (by kernel_rfl) ?_
   (try simp only [List.append_eq, List.cons_append, List.nil_append])
   repeat (go_big_quiet_step (fail))
   refine wpQuiet_nil ?_
   intro _ hw_
   obtain ⟨nq, hw_⟩ := hw_
   subst hw_
   exact hx _ _ _ _ _ _ _ _ _ _ _ _ _ _ _ _ _ _ _ _ _ _ _ _ _ _ _ _ _ _ _ _ _ _ _ _ _ _ _ _ _ _ _ _ _ _ _ _ _ _ _ _ _ _ _ _ _ _ _ _ _ _ _ _ _ _ _ _ _ _ _ _ _ _ _ _ _ _ _ _ _ (pw_below_drewN (Below.refl _ _) nq)
  ·have db2 : decide (1000 < v) = false := decide_eq_false b2
   by_cases b3 : 0 < v
   ·have db3 : decide (0 < v) = true := decide_eq_true b3
    obtain rfl : b = true := by first | (exact hB.1 (by first | omega | (have := HX0.out; omega) | (have := HY0.out; omega) | (have := HX0.out; have := HY0.out; omega))) | (rw [← Bool.not_eq_true]; exact fun hb => by have := hB.2 hb; first | omega | (have := HX0.out; omega) | (have := HY0.out; omega) | (have := HX0.out; have := HY0.out; omega))
    clear hB
    refine wp_region_quiet_lit (by kernel_rfl) (by kernel_rfl) ?_
    (try simp only [List.append_eq, List.cons_append, List.nil_append])
    repeat (go_big_quiet_step (fail))
    refine wpQuiet_nil ?_
    intro _ hw_
    obtain ⟨nq, hw_⟩ := hw_
    subst hw_
    exact hx _ _ _ _ _ _ _ _ _ _ _ _ _ _ _ _ _ _ _ _ _ _ _ _ _ _ _ _ _ _ _ _ _ _ _ _ _ _ _ _ _ _ _ _ _ _ _ _ _ _ _ _ _ _ _ _ _ _ _ _ _ _ _ _ _ _ _ _ _ _ _ _ _ _ _ _ _ _ _ _ _ (pw_below_drewN (Below.refl _ _) nq)
   ·have db3 : decide (0 < v) = false := decide_eq_false b3
    by_cases y0 : y = 0
    ·have dy1 : decide (0 < y) = false := decide_eq_false (by omega)
     have HY0 := Aside0.mk y0
     clear y0
     obtain rfl : b = false := by first | (exact hB.1 (by first | omega | (have := HX0.out; omega) | (have := HY0.out; omega) | (have := HX0.out; have := HY0.out; omega))) | (rw [← Bool.not_eq_true]; exact fun hb => by have := hB.2 hb; first | omega | (have := HX0.out; omega) | (have := HY0.out; omega) | (have := HX0.out; have := HY0.out; omega))
     clear hB
     refine wp_region_quiet_lit (by kernel_rfl) (by kernel_rfl) ?_
     (try simp only [List.append_eq, List.cons_append, List.nil_append])
     repeat (go_big_quiet_step (fail))
     refine wpQuiet_nil ?_
     intro _ hw_
     obtain ⟨nq, hw_⟩ := hw_
     subst hw_
     exact hx _ _ _ _ _ _ _ _ _ _ _ _ _ _ _ _ _ _ _ _ _ _ _ _ _ _ _ _ _ _ _ _ _ _ _ _ _ _ _ _ _ _ _ _ _ _ _ _ _ _ _ _ _ _ _ _ _ _ _ _ _ _ _ _ _ _ _ _ _ _ _ _ _ _ _ _ _ _ _ _ _ (pw_below_drewN (Below.refl _ _) nq)
    ·skip
     have dy1 : decide (0 < y) = true := decide_eq_true (by omega)
     have HY0 := Aside0.mk y0
     have wy : IntKind.i64.wrap (y - 1) = y - 1 := by rw [i64_w]; exact bd_wrap ⟨by omega, by omega⟩
     have hlc := hl (by omega)
     obtain ⟨jy, hjy⟩ : ∃ j, y - 1 = j := ⟨_, rfl⟩
     rw [hjy] at wy hlc
     have jy0 : (0 : Int) ≤ jy := by omega
     have jy1 : jy < (n : Int) := by omega
     obtain ⟨l_1, el1⟩ : ∃ v, wrap64 (l + 1) = v := ⟨_, rfl⟩
     have wl := (i64_w (l + 1)).trans el1
     rw [el1] at hB
     clear el1 y0
     by_cases b5 : l_1 < v
     ·have db5 : decide (l_1 < v) = true := decide_eq_true b5
      obtain rfl : b = true := by first | (exact hB.1 (by first | omega | (have := HX0.out; omega) | (have := HY0.out; omega) | (have := HX0.out; have := HY0.out; omega))) | (rw [← Bool.not_eq_true]; exact fun hb => by have := hB.2 hb; first | omega | (have := HX0.out; omega) | (have := HY0.out; omega) | (have := HX0.out; have := HY0.out; omega))
      clear hB
      refine wp_region_quiet_lit (by kernel_rfl) (by kernel_rfl) ?_
      (try simp only [List.append_eq, List.cons_append, List.nil_append])
      repeat (go_big_quiet_step (fail))
      refine wpQuiet_nil ?_
      intro _ hw_
      obtain ⟨nq, hw_⟩ := hw_
      subst hw_
      exact hx _ _ _ _ _ _ _ _ _ _ _ _ _ _ _ _ _ _ _ _ _ _ _ _ _ _ _ _ _ _ _ _ _ _ _ _ _ _ _ _ _ _ _ _ _ _ _ _ _ _ _ _ _ _ _ _ _ _ _ _ _ _ _ _ _ _ _ _ _ _ _ _ _ _ _ _ _ _ _ _ _ (pw_below_drewN (Below.refl _ _) nq)
     ·have db5 : decide (l_1 < v) = false := decide_eq_false b5
      obtain rfl : b = false := by first | (exact hB.1 (by first | omega | (have := HX0.out; omega) | (have := HY0.out; omega) | (have := HX0.out; have := HY0.out; omega))) | (rw [← Bool.not_eq_true]; exact fun hb => by have := hB.2 hb; first | omega | (have := HX0.out; omega) | (have := HY0.out; omega) | (have := HX0.out; have := HY0.out; omega))
      clear hB
      refine wp_region_quiet_lit (by kernel_rfl) (by kernel_rfl) ?_
      (try simp only [List.append_eq, List.cons_append, List.nil_append])
      repeat (go_big_quiet_step (fail))
      refine wpQuiet_nil ?_
      intro _ hw_
      obtain ⟨nq, hw_⟩ := hw_
      subst hw_
      exact hx _ _ _ _ _ _ _ _ _ _ _ _ _ _ _ _ _ _ _ _ _ _ _ _ _ _ _ _ _ _ _ _ _ _ _ _ _ _ _ _ _ _ _ _ _ _ _ _ _ _ _ _ _ _ _ _ _ _ _ _ _ _ _ _ _ _ _ _ _ _ _ _ _ _ _ _ _ _ _ _ _ (pw_below_drewN (Below.refl _ _) nq)
set_option maxHeartbeats 400000000 in
set_option maxRecDepth 1000000 in
theorem bd_reg12b {A0 A1 : Option Addr} {ad2 ad au : Addr} {n0 n1 n2 n cr m cu c0' c1' c2' : Nat} {x y v u l d s hh pp : Int} {b : Bool} {T : World} (c3 c4 c5 c6 c7 c11 c12 c13 c14 c15 c16 c17 c18 c19 c20 c21 c22 c23 c24 c25 c26 c27 c28 c29 c30 c31 c32 c33 c34 c35 c36 c37 c38 c39 c40 c41 c42 c43 c44 c45 c46 c47 c48 c49 c50 c51 c52 c53 c54 c55 c56 c57 c58 c59 c60 c61 c62 c63 c64 c65 c66 c67 c68 c69 c70 c71 c72 c73 c74 c75 c76 c77 c78 c79 c80 c81 c82 c83 c84 c85 c86 c87 c88 c89 c90 c91 c92 c93 c94 c95 c96 c97 c98 c99 c100 c101 c102 c103 c104 c105 c106 c107 c108 c109 c110 c111 c112 c113 c114 c115 c116 c117 c118 c119 c120 c121 c122 c123 c124 c125 c126 c127 c128 c129 c130 c131 c132 c133 c134 c135 c136 c137 c138 c139 c140 c141 c142 c143 c144 : Value) (Q : Exit → Act → World → Prop) (hx0 : 0 ≤ x) (hx1 : x < (n2 : Int)) (hy0 : 0 ≤ y) (hy1 : y < (n : Int)) (hys : y ≤ 100000) (hxp : 0 < x) (hxs : x ≤ 100000) (hcw : T.cell? (ad2.add x.toNat) = some (.slice (some ad) n cr)) (hup : T.cell? (ad2.add (x - 1).toNat) = some (.slice (some au) m cu)) (hym : y < (m : Int)) (hu : T.cell? (au.add y.toNat) = some (.int .i64 u)) (hxh : x - 1 < (n0 : Int)) (hl : 0 < y → T.cell? (ad.add (y - 1).toNat) = some (.int .i64 l)) (hd : 0 < y → T.cell? (au.add (y - 1).toNat) = some (.int .i64 d)) (hh_ : 0 < y → ∃ a0, A0 = some a0 ∧ T.cell? (a0.add (x - 1).toNat) = some (.int .i64 hh)) (hp_ : 0 < y → y - 1 < (n1 : Int) ∧ ∃ a1, A1 = some a1 ∧ T.cell? (a1.add (y - 1).toNat) = some (.int .i64 pp)) (HD : Aside0 (aircheckref36_differ.f hh pp = some s)) (hB : bd_v v u l d s x y ↔ b = true) (hx : ∀ (u58 u59 u60 u61 u62 u63 u64 u65 u66 u67 u68 u69 u70 u71 u72 u73 u74 u75 u76 u77 u78 u79 u80 u81 u82 u83 u84 u85 u86 u87 u88 u89 u90 u91 u92 u93 u94 u95 u96 u97 u98 u99 u100 u101 u102 u103 u104 u105 u106 u107 u108 u109 u110 u111 u112 u113 u114 u115 u116 u117 u118 u119 u120 u121 u122 u123 u124 u125 u126 u127 u128 u129 u130 u131 u132 u133 u134 u135 u136 u137 : Value)  (w' : World), Below T.heap.size T w' → Q .normal ⟨List.toArray (.slice A0 n0 c0' :: .slice A1 n1 c1' :: .slice (some ad2) n2 c2' :: c3 :: c4 :: c5 :: c6 :: c7 :: .int .i64 x :: .int .i64 y :: .int .i64 v :: c11 :: c12 :: c13 :: c14 :: c15 :: c16 :: c17 :: c18 :: c19 :: c20 :: c21 :: c22 :: c23 :: c24 :: c25 :: c26 :: c27 :: c28 :: c29 :: c30 :: c31 :: c32 :: c33 :: c34 :: c35 :: c36 :: c37 :: c38 :: c39 :: c40 :: c41 :: c42 :: c43 :: c44 :: c45 :: c46 :: c47 :: c48 :: c49 :: c50 :: c51 :: c52 :: c53 :: c54 :: c55 :: c56 :: c57 :: u58 :: u59 :: u60 :: u61 :: u62 :: u63 :: u64 :: u65 :: u66 :: u67 :: u68 :: u69 :: u70 :: u71 :: u72 :: u73 :: u74 :: u75 :: u76 :: u77 :: u78 :: u79 :: u80 :: u81 :: u82 :: u83 :: u84 :: u85 :: u86 :: u87 :: u88 :: u89 :: u90 :: u91 :: u92 :: u93 :: u94 :: u95 :: u96 :: u97 :: u98 :: u99 :: u100 :: u101 :: u102 :: u103 :: u104 :: u105 :: u106 :: u107 :: u108 :: u109 :: u110 :: u111 :: u112 :: u113 :: u114 :: u115 :: u116 :: u117 :: u118 :: u119 :: u120 :: u121 :: u122 :: u123 :: u124 :: u125 :: u126 :: u127 :: u128 :: u129 :: u130 :: u131 :: u132 :: u133 :: u134 :: u135 :: u136 :: u137 :: .bool b :: c139 :: c140 :: c141 :: c142 :: c143 :: c144 :: []), []⟩ w') :
  Code.wp Try.prog bd_q12 Q ⟨List.toArray (.slice A0 n0 c0' :: .slice A1 n1 c1' :: .slice (some ad2) n2 c2' :: c3 :: c4 :: c5 :: c6 :: c7 :: .int .i64 x :: .int .i64 y :: .int .i64 v :: c11 :: c12 :: c13 :: c14 :: c15 :: c16 :: c17 :: c18 :: c19 :: c20 :: c21 :: c22 :: c23 :: c24 :: c25 :: c26 :: c27 :: c28 :: c29 :: c30 :: c31 :: c32 :: c33 :: c34 :: c35 :: c36 :: c37 :: c38 :: c39 :: c40 :: c41 :: c42 :: c43 :: c44 :: c45 :: c46 :: c47 :: c48 :: c49 :: c50 :: c51 :: c52 :: c53 :: c54 :: c55 :: c56 :: c57 :: c58 :: c59 :: c60 :: c61 :: c62 :: c63 :: c64 :: c65 :: c66 :: c67 :: c68 :: c69 :: c70 :: c71 :: c72 :: c73 :: c74 :: c75 :: c76 :: c77 :: c78 :: c79 :: c80 :: c81 :: c82 :: c83 :: c84 :: c85 :: c86 :: c87 :: c88 :: c89 :: c90 :: c91 :: c92 :: c93 :: c94 :: c95 :: c96 :: c97 :: c98 :: c99 :: c100 :: c101 :: c102 :: c103 :: c104 :: c105 :: c106 :: c107 :: c108 :: c109 :: c110 :: c111 :: c112 :: c113 :: c114 :: c115 :: c116 :: c117 :: c118 :: c119 :: c120 :: c121 :: c122 :: c123 :: c124 :: c125 :: c126 :: c127 :: c128 :: c129 :: c130 :: c131 :: c132 :: c133 :: c134 :: c135 :: c136 :: c137 :: c138 :: c139 :: c140 :: c141 :: c142 :: c143 :: c144 :: []), []⟩ T := by
 conv => arg 2; whnf
 unfold bd_v at hB
 have dx0 : (x == 0) = false := beq_eq_false_iff_ne.2 (by omega)
 have dx1 : decide (0 < x) = true := decide_eq_true hxp
 have HX0 := Aside0.mk hxp
 have wx : IntKind.i64.wrap (x - 1) = x - 1 := by rw [i64_w]; exact bd_wrap ⟨by omega, by omega⟩
 obtain ⟨jx, hjx⟩ : ∃ j, x - 1 = j := ⟨_, rfl⟩
 rw [hjx] at wx hup hxh hh_
 have jx0 : (0 : Int) ≤ jx := by omega
 have jx1 : jx < (n2 : Int) := by omega
 obtain ⟨u_1, eu1⟩ : ∃ v, wrap64 (u + 1) = v := ⟨_, rfl⟩
 have wu := (i64_w (u + 1)).trans eu1
 rw [eu1] at hB
 clear eu1 hxp
 by_cases b1 : v < -1000
 ·have db1 : decide (v < -1000) = true := decide_eq_true b1
  obtain rfl : b = true := by first | (exact hB.1 (by first | omega | (have := HX0.out; omega) | (have := HY0.out; omega) | (have := HX0.out; have := HY0.out; omega))) | (rw [← Bool.not_eq_true]; exact fun hb => by have := hB.2 hb; first | omega | (have := HX0.out; omega) | (have := HY0.out; omega) | (have := HX0.out; have := HY0.out; omega))
  clear hB
  refine wp_region_quiet_lit (by kernel_rfl) (by kernel_rfl) ?_
  (try simp only [List.append_eq, List.cons_append, List.nil_append])
  repeat (go_big_quiet_step (fail))
  refine wpQuiet_nil ?_
  intro _ hw_
  obtain ⟨nq, hw_⟩ := hw_
  subst hw_
  exact hx _ _ _ _ _ _ _ _ _ _ _ _ _ _ _ _ _ _ _ _ _ _ _ _ _ _ _ _ _ _ _ _ _ _ _ _ _ _ _ _ _ _ _ _ _ _ _ _ _ _ _ _ _ _ _ _ _ _ _ _ _ _ _ _ _ _ _ _ _ _ _ _ _ _ _ _ _ _ _ _ _ (pw_below_drewN (Below.refl _ _) nq)
 ·have db1 : decide (v < -1000) = false := decide_eq_false b1
  by_cases b2 : 1000 < v
  ·have db2 : decide (1000 < v) = true := decide_eq_true b2
   obtain rfl : b = true := by first | (exact hB.1 (by first | omega | (have := HX0.out; omega) | (have := HY0.out; omega) | (have := HX0.out; have := HY0.out; omega))) | (rw [← Bool.not_eq_true]; exact fun hb => by have := hB.2 hb; first | omega | (have := HX0.out; omega) | (have := HY0.out; omega) | (have := HX0.out; have := HY0.out; omega))
   clear hB
   refine wp_region_quiet_lit (by kernel_rfl) (by kernel_rfl) ?_
   (try simp only [List.append_eq, List.cons_append, List.nil_append])
   repeat (go_big_quiet_step (fail))
   refine wpQuiet_nil ?_
   intro _ hw_
   obtain ⟨nq, hw_⟩ := hw_
   subst hw_
   exact hx _ _ _ _ _ _ _ _ _ _ _ _ _ _ _ _ _ _ _ _ _ _ _ _ _ _ _ _ _ _ _ _ _ _ _ _ _ _ _ _ _ _ _ _ _ _ _ _ _ _ _ _ _ _ _ _ _ _ _ _ _ _ _ _ _ _ _ _ _ _ _ _ _ _ _ _ _ _ _ _ _ (pw_below_drewN (Below.refl _ _) nq)
  ·have db2 : decide (1000 < v) = false := decide_eq_false b2
   by_cases b4 : u_1 < v
   ·have db4 : decide (u_1 < v) = true := decide_eq_true b4
    obtain rfl : b = true := by first | (exact hB.1 (by first | omega | (have := HX0.out; omega) | (have := HY0.out; omega) | (have := HX0.out; have := HY0.out; omega))) | (rw [← Bool.not_eq_true]; exact fun hb => by have := hB.2 hb; first | omega | (have := HX0.out; omega) | (have := HY0.out; omega) | (have := HX0.out; have := HY0.out; omega))
    clear hB
    refine wp_region_quiet_lit (by kernel_rfl) (by kernel_rfl) ?_
    (try simp only [List.append_eq, List.cons_append, List.nil_append])
    repeat (go_big_quiet_step (fail))
    refine wpQuiet_nil ?_
    intro _ hw_
    obtain ⟨nq, hw_⟩ := hw_
    subst hw_
    exact hx _ _ _ _ _ _ _ _ _ _ _ _ _ _ _ _ _ _ _ _ _ _ _ _ _ _ _ _ _ _ _ _ _ _ _ _ _ _ _ _ _ _ _ _ _ _ _ _ _ _ _ _ _ _ _ _ _ _ _ _ _ _ _ _ _ _ _ _ _ _ _ _ _ _ _ _ _ _ _ _ _ (pw_below_drewN (Below.refl _ _) nq)
   ·have db4 : decide (u_1 < v) = false := decide_eq_false b4
    by_cases y0 : y = 0
    ·have dy1 : decide (0 < y) = false := decide_eq_false (by omega)
     have HY0 := Aside0.mk y0
     clear y0
     obtain rfl : b = false := by first | (exact hB.1 (by first | omega | (have := HX0.out; omega) | (have := HY0.out; omega) | (have := HX0.out; have := HY0.out; omega))) | (rw [← Bool.not_eq_true]; exact fun hb => by have := hB.2 hb; first | omega | (have := HX0.out; omega) | (have := HY0.out; omega) | (have := HX0.out; have := HY0.out; omega))
     clear hB
     refine wp_region_quiet_lit (by kernel_rfl) (by kernel_rfl) ?_
     (try simp only [List.append_eq, List.cons_append, List.nil_append])
     repeat (go_big_quiet_step (fail))
     refine wpQuiet_nil ?_
     intro _ hw_
     obtain ⟨nq, hw_⟩ := hw_
     subst hw_
     exact hx _ _ _ _ _ _ _ _ _ _ _ _ _ _ _ _ _ _ _ _ _ _ _ _ _ _ _ _ _ _ _ _ _ _ _ _ _ _ _ _ _ _ _ _ _ _ _ _ _ _ _ _ _ _ _ _ _ _ _ _ _ _ _ _ _ _ _ _ _ _ _ _ _ _ _ _ _ _ _ _ _ (pw_below_drewN (Below.refl _ _) nq)
    ·skip
     have dy1 : decide (0 < y) = true := decide_eq_true (by omega)
     have HY0 := Aside0.mk y0
     have wy : IntKind.i64.wrap (y - 1) = y - 1 := by rw [i64_w]; exact bd_wrap ⟨by omega, by omega⟩
     have hlc := hl (by omega)
     obtain ⟨jy, hjy⟩ : ∃ j, y - 1 = j := ⟨_, rfl⟩
     rw [hjy] at wy hlc
     have jy0 : (0 : Int) ≤ jy := by omega
     have jy1 : jy < (n : Int) := by omega
     obtain ⟨l_1, el1⟩ : ∃ v, wrap64 (l + 1) = v := ⟨_, rfl⟩
     have wl := (i64_w (l + 1)).trans el1
     rw [el1] at hB
     clear el1 y0
     have hdc := hd (by omega)
     obtain ⟨a0, rfl, hhc⟩ := hh_ (by omega)
     obtain ⟨hpl, a1, rfl, hpc⟩ := hp_ (by omega)
     rw [hjy] at hdc hpc hpl
     have jym : jy < (m : Int) := by omega
     obtain ⟨d_1, ed1⟩ : ∃ v, wrap64 (d + s) = v := ⟨_, rfl⟩
     have wd := (i64_w (d + s)).trans ed1
     rw [ed1] at hB
     clear ed1 hd hh_ hp_
     by_cases b5 : l_1 < v
     ·have db5 : decide (l_1 < v) = true := decide_eq_true b5
      obtain rfl : b = true := by first | (exact hB.1 (by first | omega | (have := HX0.out; omega) | (have := HY0.out; omega) | (have := HX0.out; have := HY0.out; omega))) | (rw [← Bool.not_eq_true]; exact fun hb => by have := hB.2 hb; first | omega | (have := HX0.out; omega) | (have := HY0.out; omega) | (have := HX0.out; have := HY0.out; omega))
      clear hB
      refine wp_region_quiet_lit (by kernel_rfl) (by kernel_rfl) ?_
      (try simp only [List.append_eq, List.cons_append, List.nil_append])
      repeat (go_big_quiet_step (fail))
      refine wpQuiet_nil ?_
      intro _ hw_
      obtain ⟨nq, hw_⟩ := hw_
      subst hw_
      exact hx _ _ _ _ _ _ _ _ _ _ _ _ _ _ _ _ _ _ _ _ _ _ _ _ _ _ _ _ _ _ _ _ _ _ _ _ _ _ _ _ _ _ _ _ _ _ _ _ _ _ _ _ _ _ _ _ _ _ _ _ _ _ _ _ _ _ _ _ _ _ _ _ _ _ _ _ _ _ _ _ _ (pw_below_drewN (Below.refl _ _) nq)
     ·have db5 : decide (l_1 < v) = false := decide_eq_false b5
      by_cases b6 : d_1 < v
      ·have db6 : decide (d_1 < v) = true := decide_eq_true b6
       obtain rfl : b = true := by first | (exact hB.1 (by first | omega | (have := HX0.out; omega) | (have := HY0.out; omega) | (have := HX0.out; have := HY0.out; omega))) | (rw [← Bool.not_eq_true]; exact fun hb => by have := hB.2 hb; first | omega | (have := HX0.out; omega) | (have := HY0.out; omega) | (have := HX0.out; have := HY0.out; omega))
       clear hB
       refine wp_region_quiet_lit (by kernel_rfl) (by kernel_rfl) ?_
       (try simp only [List.append_eq, List.cons_append, List.nil_append])
       repeat (go_big_quiet_step ((go_at_call 53; (with_reducible refine (aircheckref36_differ.calls hh pp s _ HD.out).mono ?_); rintro e w' ⟨rfl, ⟨nd, rfl⟩⟩; (try first | exact ⟨rfl, _, World.drewN_drewN _ _ _⟩ | exact ⟨rfl, _, Eq.trans (World.drewN_drewN _ _ _) (congrArg (World.drewN _) (Nat.add_assoc _ _ _))⟩))))
       refine wpQuiet_nil ?_
       intro _ hw_
       obtain ⟨nq, hw_⟩ := hw_
       subst hw_
       exact hx _ _ _ _ _ _ _ _ _ _ _ _ _ _ _ _ _ _ _ _ _ _ _ _ _ _ _ _ _ _ _ _ _ _ _ _ _ _ _ _ _ _ _ _ _ _ _ _ _ _ _ _ _ _ _ _ _ _ _ _ _ _ _ _ _ _ _ _ _ _ _ _ _ _ _ _ _ _ _ _ _ (pw_below_drewN (Below.refl _ _) nq)
      ·have db6 : decide (d_1 < v) = false := decide_eq_false b6
       obtain rfl : b = false := by first | (exact hB.1 (by first | omega | (have := HX0.out; omega) | (have := HY0.out; omega) | (have := HX0.out; have := HY0.out; omega))) | (rw [← Bool.not_eq_true]; exact fun hb => by have := hB.2 hb; first | omega | (have := HX0.out; omega) | (have := HY0.out; omega) | (have := HX0.out; have := HY0.out; omega))
       clear hB
       refine wp_region_quiet_lit (by kernel_rfl) (by kernel_rfl) ?_
       (try simp only [List.append_eq, List.cons_append, List.nil_append])
       repeat (go_big_quiet_step ((go_at_call 53; (with_reducible refine (aircheckref36_differ.calls hh pp s _ HD.out).mono ?_); rintro e w' ⟨rfl, ⟨nd, rfl⟩⟩; (try first | exact ⟨rfl, _, World.drewN_drewN _ _ _⟩ | exact ⟨rfl, _, Eq.trans (World.drewN_drewN _ _ _) (congrArg (World.drewN _) (Nat.add_assoc _ _ _))⟩))))
       refine wpQuiet_nil ?_
       intro _ hw_
       obtain ⟨nq, hw_⟩ := hw_
       subst hw_
       exact hx _ _ _ _ _ _ _ _ _ _ _ _ _ _ _ _ _ _ _ _ _ _ _ _ _ _ _ _ _ _ _ _ _ _ _ _ _ _ _ _ _ _ _ _ _ _ _ _ _ _ _ _ _ _ _ _ _ _ _ _ _ _ _ _ _ _ _ _ _ _ _ _ _ _ _ _ _ _ _ _ _ (pw_below_drewN (Below.refl _ _) nq)
def aircheckref36_Bound.f (k : Nat) (l0 l1 : List Int) (l2 : List (List Int)) : Option (Int × Bool) :=
 if l0.length ≤ 1000 ∧ l1.length ≤ 1000 then (aircheckref36_Heard.f k l0).bind fun v => if v = true then (aircheckref36_IsPrint.f k l1).bind fun u => if u = true then if l2.length = l0.length + 1 then if bd_ok l0 l1 l2 then (aircheckref36_least.f k (rd_L1 l2 (l0.length : Int))).bind fun z => some (z, true) else some (0, false) else some (0, false) else some (0, false) else some (0, false) else none
set_option maxRecDepth 100000 in
set_option maxHeartbeats 8000000 in
theorem aircheckref36_Bound.calls (k : Nat) (A0 : Option Addr) (c0 : Nat) (l0 : List Int) (A1 : Option Addr) (c1 : Nat) (l1 : List Int) (A2 : Option Addr) (c2 : Nat) (l2 : List (List Int)) (r1 : Int) (r2 : Bool) (w : World) (hr0 : Kd.C (Kd.int .i64) w A0 l0.length l0) (hc0 : l0.length ≤ c0) (hr1 : Kd.C (Kd.int .i64) w A1 l1.length l1) (hc1 : l1.length ≤ c1) (hr2 : Kd.C (Kd.slice 3 (Kd.int .i64)) w A2 l2.length l2) (hc2 : l2.length ≤ c2) (h : aircheckref36_Bound.f k l0 l1 l2 = some (r1, r2)) :
  Calls Try.prog 32 #[.slice A0 l0.length c0, .slice A1 l1.length c1, .slice A2 l2.length c2] w fun e w' => e = .returned (.tuple #[.int .i64 r1, .bool r2]) ∧ Below w.heap.size w w' := by
 unfold aircheckref36_Bound.f at h
 split at h
 next hl =>
  obtain ⟨hl0, hl1⟩ := hl
  obtain ⟨v, hv, h⟩ := Option.bind_eq_some_iff.1 h
  have HR0 := Aside0.mk hr0
  have HC0 := Aside0.mk hc0
  have HR1 := Aside0.mk hr1
  have HC1 := Aside0.mk hc1
  have HR2 := Aside0.mk hr2
  have HC2 := Aside0.mk hc2
  have A3 := Aside0.mk hv
  have hw0 : IntKind.i64.wrap ((l0.length : Int) + 1) = (l0.length : Int) + 1 := by rw [i64_w]; exact bd_wrap ⟨by omega, by omega⟩
  have hw1 : IntKind.i64.wrap ((l1.length : Int) + 1) = (l1.length : Int) + 1 := by rw [i64_w]; exact bd_wrap ⟨by omega, by omega⟩
  have HL1 := Aside0.mk hl1
  have HL0 := Aside0.mk hl0
  clear hr0 hc0 hr1 hc1 hr2 hc2 hv hl1 hl0
  go_enter Try.func32, Try.ntmps32
  go_wp2_with (fail)
  refine (aircheckref36_Heard.calls k _ _ l0 v _ HR0.out HC0.out A3.out).mono ?_
  rintro e wa ⟨rfl, nd, rfl⟩
  have HB1 := Aside0.mk (pw_below_drewN (Below.refl w.heap.size w) nd)
  cases v with
  | false =>
   obtain ⟨rfl, rfl⟩ := Prod.mk.inj (Option.some.inj ((if_neg (by decide)).symm.trans h))
   clear h
   go_wp2
   go_ret2
   exact ⟨rfl, HB1.out⟩
  | true =>
   rw [if_pos rfl] at h
   obtain ⟨u, hu, h⟩ := Option.bind_eq_some_iff.1 h
   have A4 := Aside0.mk hu
   have HH := Aside0.mk h
   clear hu h
   go_wp2_with (fail)
   refine (aircheckref36_IsPrint.calls k _ _ l1 u _ (Kd.C_below HR1.out HB1.out) HC1.out A4.out).mono ?_
   rintro e wa ⟨rfl, nd2, rfl⟩
   have HB2 := Aside0.mk (pw_below_drewN (Below.refl w.heap.size w) (nd + nd2))
   have h := HH.out
   clear HH
   cases u with
   | false =>
    obtain ⟨rfl, rfl⟩ := Prod.mk.inj (Option.some.inj ((if_neg (by decide)).symm.trans h))
    clear h
    go_wp2
    go_ret2
    exact ⟨rfl, HB2.out⟩
   | true =>
    rw [if_pos rfl] at h
    by_cases hlen : l2.length = l0.length + 1
    ·have dl : ((l2.length : Int) != (l0.length : Int) + 1) = false := by rw [bne_eq_false_iff_eq]; omega
     rw [if_pos hlen] at h
     have HH := Aside0.mk h
     have HL := Aside0.mk hlen
     clear h hlen
     go_wp2
     go_loopw [8] (fun p wr => ∃ x : Int, p = .int .i64 x ∧ Aside0 (0 ≤ x ∧ x ≤ (l2.length : Int)) ∧ Aside0 (∀ i : Nat, (i : Int) < x → bd_row l0 l1 l2 (i : Int)) ∧ Aside0 (Below w.heap.size w wr)) (fun p _ => l2.length - (intOf p).toNat)
     case atStart => exact ⟨0, rfl, ⟨by omega, by omega⟩, ⟨fun i hi => absurd hi (by omega)⟩, HB2⟩
     case round =>
      obtain ⟨x, rfl, HX, HI, HB⟩ := hrel
      clear HB1 HB2 dl
      have hx0 := HX.out.1
      by_cases hx1 : x < (l2.length : Int)
      ·obtain ⟨ad2, Ar, cr, e2, hcell, hle, hrow⟩ := at_L1 HR2.out x hx0 hx1
       subst e2
       replace hcell := Aside0.mk hcell
       have HLE := Aside0.mk hle
       have HROW := Aside0.mk hrow
       clear hle hrow
       have hcw := (HB.out.cell (World.block_lt_of_cell? w _ hcell.out)).trans hcell.out
       by_cases hrl : (rd_L1 l2 x).length = l1.length + 1
       ·have dr : (((rd_L1 l2 x).length : Int) != (l1.length : Int) + 1) = false := by rw [bne_eq_false_iff_eq]; omega
        have HRL := Aside0.mk hrl
        clear hrl
        go_wp2
        go_loopw [9] (fun p wr => ∃ y : Int, p = .int .i64 y ∧ Aside0 (0 ≤ y ∧ y ≤ (l1.length : Int) + 1) ∧ Aside0 (∀ j : Nat, (j : Int) < y → ¬ bd_bad l0 l1 l2 x (j : Int)) ∧ Aside0 (Below w.heap.size w wr)) (fun p _ => l1.length + 1 - (intOf p).toNat)
        case atStart => exact ⟨0, rfl, ⟨by omega, by omega⟩, ⟨fun i hi => absurd hi (by omega)⟩, HB⟩
        case round =>
         clear hcw HB dr
         obtain ⟨y, rfl, HY, HJ, HB⟩ := hrel
         have hy0 := HY.out.1
         have hcw := (HB.out.cell (World.block_lt_of_cell? w _ hcell.out)).trans hcell.out
         by_cases hy1 : y < ((rd_L1 l2 x).length : Int)
         ·obtain ⟨ad, rfl, hv⟩ := Kd.at_int HROW.out y hy0 hy1
          replace hv := (HB.out.cell (World.block_lt_of_cell? w _ hv)).trans hv
          have HY2 := Aside0.mk (show y < (l1.length : Int) + 1 by have := HRL.out; omega)
          obtain ⟨b, eb⟩ : ∃ b, decide (bd_bad l0 l1 l2 x y) = b := ⟨_, rfl⟩
          have HBB := Aside0.mk (show bd_v (rd (rd_L1 l2 x) y) (rd (rd_L1 l2 (x - 1)) y) (rd (rd_L1 l2 x) (y - 1)) (rd (rd_L1 l2 (x - 1)) (y - 1)) (if rd l0 (x - 1) = rd l1 (y - 1) then 0 else 1) x y ↔ b = true by rw [← eb, decide_eq_true_iff]; exact Iff.rfl)
          have HEB := Aside0.mk eb
          clear eb
          go_upto_region 12 with (fail)
          have hl : 0 < y → wr.cell? (ad.add (y - 1).toNat) = some (.int .i64 (rd (rd_L1 l2 x) (y - 1))) := fun hy => by
           obtain ⟨ad', ea', h⟩ := Kd.at_int HROW.out (y - 1) (by omega) (by omega)
           cases ea'
           exact (HB.out.cell (World.block_lt_of_cell? w _ h)).trans h
          have hys : y ≤ 100000 := by have := HY2.out; have := HL1.out; omega
          have hxs : x ≤ 100000 := by have := HL.out; have := HL0.out; omega
          by_cases x0 : x = 0
          ·refine bd_reg12a _ _ _ _ _ _ _ _ _ _ _ _ _ _ _ _ _ _ _ _ _ _ _ _ _ _ _ _ _ _ _ _ _ _ _ _ _ _ _ _ _ _ _ _ _ _ _ _ _ _ _ _ _ _ _ _ _ _ _ _ _ _ _ _ _ _ _ _ _ _ _ _ _ _ _ _ _ _ _ _ _ _ _ _ _ _ _ _ _ _ _ _ _ _ _ _ _ _ _ _ _ _ _ _ _ _ _ _ _ _ _ _ _ _ _ _ _ _ _ _ _ _ _ _ _ _ _ _ _ _ _ _ _ _ _ _ _ _ _ _ hx0 hx1 hy0 hy1 hys x0 hcw hl HBB.out ?_
           clear x0 hl hys hxs
           intro u58 u59 u60 u61 u62 u63 u64 u65 u66 u67 u68 u69 u70 u71 u72 u73 u74 u75 u76 u77 u78 u79 u80 u81 u82 u83 u84 u85 u86 u87 u88 u89 u90 u91 u92 u93 u94 u95 u96 u97 u98 u99 u100 u101 u102 u103 u104 u105 u106 u107 u108 u109 u110 u111 u112 u113 u114 u115 u116 u117 u118 u119 u120 u121 u122 u123 u124 u125 u126 u127 u128 u129 u130 u131 u132 u133 u134 u135 u136 u137 wz hb
           replace HB := Aside0.mk (below_step HB.out hb)
           clear hb hcw hv
           cases b with
           | true =>
            obtain ⟨rfl, rfl⟩ := bd_failc HH.out hx0 hx1 hy0 HY2.out (of_decide_eq_true HEB.out)
            go_wp2
            go_ret2
            exact ⟨rfl, HB.out⟩
           | false =>
            have HN := Aside0.mk (of_decide_eq_false HEB.out)
            have wq : IntKind.i64.wrap (y + 1) = y + 1 := by rw [i64_w]; exact bd_wrap ⟨by omega, by have := HY2.out; have := HL1.out; omega⟩
            go_wp2
            go_roundw
            case rel => exact ⟨y + 1, by go_num, ⟨by omega, by have := HY2.out; omega⟩, ⟨fun j hj => by
             by_cases hjy : (j : Int) = y
             ·rw [hjy]; exact HN.out
             ·exact HJ.out j (by omega)⟩, HB⟩
            case measure => simp [intOf]; have := HY2.out; omega
          ·obtain ⟨ad3, Au, cu, e3, hcu, hleu, hrowu⟩ := at_L1 HR2.out (x - 1) (by omega) (by omega)
           cases e3
           replace hcu := (HB.out.cell (World.block_lt_of_cell? w _ hcu)).trans hcu
           have hU := (HI.out (x - 1).toNat (by omega)).1
           rw [Int.toNat_of_nonneg (show 0 ≤ x - 1 by omega)] at hU
           have hym : y < ((rd_L1 l2 (x - 1)).length : Int) := by have := HY2.out; omega
           obtain ⟨au, rfl, hu⟩ := Kd.at_int hrowu y hy0 hym
           replace hu := (HB.out.cell (World.block_lt_of_cell? w _ hu)).trans hu
           have hxh : x - 1 < (l0.length : Int) := by have := HL.out; omega
           refine bd_reg12b _ _ _ _ _ _ _ _ _ _ _ _ _ _ _ _ _ _ _ _ _ _ _ _ _ _ _ _ _ _ _ _ _ _ _ _ _ _ _ _ _ _ _ _ _ _ _ _ _ _ _ _ _ _ _ _ _ _ _ _ _ _ _ _ _ _ _ _ _ _ _ _ _ _ _ _ _ _ _ _ _ _ _ _ _ _ _ _ _ _ _ _ _ _ _ _ _ _ _ _ _ _ _ _ _ _ _ _ _ _ _ _ _ _ _ _ _ _ _ _ _ _ _ _ _ _ _ _ _ _ _ _ _ _ _ _ _ _ _ _ hx0 hx1 hy0 hy1 hys (by omega) hxs hcw hcu hym hu hxh hl (fun hy => ?_) (fun hy => ?_) (fun hy => ?_) (s := if rd l0 (x - 1) = rd l1 (y - 1) then 0 else 1) (hh := rd l0 (x - 1)) (pp := rd l1 (y - 1)) ⟨by unfold aircheckref36_differ.f; split <;> rfl⟩ HBB.out ?_
           ·obtain ⟨ad', ea', h⟩ := Kd.at_int hrowu (y - 1) (by omega) (by omega)
            cases ea'
            exact (HB.out.cell (World.block_lt_of_cell? w _ h)).trans h
           ·obtain ⟨ad', ea', h⟩ := Kd.at_int HR0.out (x - 1) (by omega) hxh
            exact ⟨ad', ea', (HB.out.cell (World.block_lt_of_cell? w _ h)).trans h⟩
           ·have hy' : y - 1 < (l1.length : Int) := by have := HY2.out; omega
            obtain ⟨ad', ea', h⟩ := Kd.at_int HR1.out (y - 1) (by omega) hy'
            exact ⟨hy', ad', ea', (HB.out.cell (World.block_lt_of_cell? w _ h)).trans h⟩
           clear x0 hl hys hxs hcu hleu hrowu hU hym hu hxh
           intro u58 u59 u60 u61 u62 u63 u64 u65 u66 u67 u68 u69 u70 u71 u72 u73 u74 u75 u76 u77 u78 u79 u80 u81 u82 u83 u84 u85 u86 u87 u88 u89 u90 u91 u92 u93 u94 u95 u96 u97 u98 u99 u100 u101 u102 u103 u104 u105 u106 u107 u108 u109 u110 u111 u112 u113 u114 u115 u116 u117 u118 u119 u120 u121 u122 u123 u124 u125 u126 u127 u128 u129 u130 u131 u132 u133 u134 u135 u136 u137 wz hb
           replace HB := Aside0.mk (below_step HB.out hb)
           clear hb hcw hv
           cases b with
           | true =>
            obtain ⟨rfl, rfl⟩ := bd_failc HH.out hx0 hx1 hy0 HY2.out (of_decide_eq_true HEB.out)
            go_wp2
            go_ret2
            exact ⟨rfl, HB.out⟩
           | false =>
            have HN := Aside0.mk (of_decide_eq_false HEB.out)
            have wq : IntKind.i64.wrap (y + 1) = y + 1 := by rw [i64_w]; exact bd_wrap ⟨by omega, by have := HY2.out; have := HL1.out; omega⟩
            go_wp2
            go_roundw
            case rel => exact ⟨y + 1, by go_num, ⟨by omega, by have := HY2.out; omega⟩, ⟨fun j hj => by
             by_cases hjy : (j : Int) = y
             ·rw [hjy]; exact HN.out
             ·exact HJ.out j (by omega)⟩, HB⟩
            case measure => simp [intOf]; have := HY2.out; omega
         ·have HRW := Aside0.mk (show bd_row l0 l1 l2 x from ⟨HRL.out, fun j hj => HJ.out j (by have := HRL.out; omega)⟩)
          have dy : decide (y < ((rd_L1 l2 x).length : Int)) = false := decide_eq_false hy1
          have wq : IntKind.i64.wrap (x + 1) = x + 1 := by rw [i64_w]; exact bd_wrap ⟨by omega, by have := HL.out; have := HL0.out; omega⟩
          go_wp2
          go_roundw
          case rel => exact ⟨x + 1, by go_num, ⟨by omega, by omega⟩, ⟨fun i hi => by
           by_cases hix : (i : Int) = x
           ·rw [hix]; exact HRW.out
           ·exact HI.out i (by omega)⟩, HB⟩
          case measure => simp [intOf]; omega
       ·have dr : (((rd_L1 l2 x).length : Int) != (l1.length : Int) + 1) = true := bne_iff_ne.2 (by omega)
        obtain ⟨rfl, rfl⟩ := bd_fail HH.out hx0 hx1 (fun hr => hrl hr.1)
        clear hrl
        go_wp2
        go_ret2
        exact ⟨rfl, HB.out⟩
      ·obtain ⟨z, hz, h⟩ := Option.bind_eq_some_iff.1 (bd_done HH.out hx1 HI.out)
       obtain ⟨rfl, rfl⟩ := Prod.mk.inj (Option.some.inj h)
       have A5 := Aside0.mk hz
       have hq : (l0.length : Int) < (l2.length : Int) := by have := HL.out; omega
       have hq0 : (0 : Int) ≤ (l0.length : Int) := by omega
       obtain ⟨ad2, Ar, cr, e2, hcell, hle, hrow⟩ := at_L1 HR2.out (l0.length : Int) hq0 hq
       subst e2
       have hcw := (HB.out.cell (World.block_lt_of_cell? w _ hcell)).trans hcell
       rw [Int.toNat_natCast] at hcw
       have HLE := Aside0.mk hle
       have HROW := Aside0.mk (Kd.C_below hrow HB.out)
       clear hz h hcell hle hrow
       go_wp2_with (fail)
       refine (aircheckref36_least.calls k _ _ _ z _ HROW.out HLE.out A5.out).mono ?_
       rintro e wb ⟨rfl, hb⟩
       go_wp2
       go_ret2
       exact ⟨rfl, below_step HB.out hb⟩
    ·have dl : ((l2.length : Int) != (l0.length : Int) + 1) = true := bne_iff_ne.2 (by omega)
     obtain ⟨rfl, rfl⟩ := Prod.mk.inj (Option.some.inj ((if_neg hlen).symm.trans h))
     clear h hlen
     go_wp2
     go_ret2
     exact ⟨rfl, HB2.out⟩
 next => cases h

end Go.Proofs.Ytgaepndbfpfniaa.PFR
