-- PRINTED by print.py (a twelfth state) out of the translation. Not trusted: Lean checks it.
import Derived.Test.YtgaepndbfpfniaaPFRx0
import Derived.Test.YtgaepndbfpfniaaPFRx22
import Derived.Test.YtgaepndbfpfniaaPFRx23
import Derived.Test.YtgaepndbfpfniaaPFRx32
import Derived.Test.YtgaepndbfpfniaaPFRx34
import Derived.Test.YtgaepndbfpfniaaPFRx35
import Derived.RangeFuncNested
import Derived.RangeFuncBound
import Derived.RangeFuncCalls
import Derived.RangeFuncLeaves
import Derived.RangeFuncBox
import Derived.Shelf.Abstract
import Derived.Shelf.RegionOpen
import Derived.OwnWalkIn
import Derived.TacticsInMore
import Derived.LoopNIn
import Derived.LoopIn
import Derived.OneCell
import Derived.BigQuiet
import Derived.Deep.RegionWith
import Derived.Deep.RegionHeld3
import Derived.Deep.RegionLaw
import Derived.IntWalk
import Derived.Lib.SliceRun
import Derived.Deep.RegionLawGrows
namespace Go.Proofs.Ytgaepndbfpfniaa.PFR
open Go.RowKit Go.Proofs.YtgaepndbfpfniaaW.PrintWords Go.Proofs.YtgaepndbfpfniaaW.PrintLast Go.Proofs.YtgaepndbfpfniaaW.PrintMore
attribute [local go_sem] max2_int min2_int max_two min_two max_three min_three max_four min_four   -- for this text's walks alone
set_option linter.unusedVariables false
set_option linter.unusedSimpArgs false

attribute [local go_sem] Oper.semAt_some
open Go.Shelf
-- given by hand: mr5
def mr_two {α : Type} (a b : α) (i : Nat) : α := if i = 0 then a else b
theorem mr_lists2 {α : Type} {d : Kd α} {W : World} {g : Nat} {e : TypeId} {A B : Option Addr} {a b : Nat} {x y : List α} (h : W.heap[g]? = some (.cells #[.slice A x.length a, .slice B y.length b] e (0, 0))) (hx : Kd.C d W A x.length x) (hy : Kd.C d W B y.length y) (lx : x.length ≤ a) (ly : y.length ≤ b) : ∀ j : Nat, j < 2 → ∃ (A : Option Addr) (cc : Nat), W.cell? ⟨g, j, none⟩ = some (.slice A (mr_two x y j).length cc) ∧ (mr_two x y j).length ≤ cc ∧ Kd.C d W A (mr_two x y j).length (mr_two x y j) := fun j hj => by
 match j, hj with
 | 0, _ => exact ⟨A, a, (blk_cell h 0).trans rfl, lx, hx⟩
 | 1, _ => exact ⟨B, b, (blk_cell h 1).trans rfl, ly, hy⟩
def mr_ok (k : Nat) (lh lc : List Int) (lp : List S34) (m1 m2 m3 m4 : Int) (lo : List Int) (lt : List (List Int)) (lx ly : List Int) (lz : List (List Int)) (p0 p1 p2 : Int) : Prop := ∃ (h1 c1 : List Int) (md : List S34), aircheckref36_Codes2.f k lx = some h1 ∧ aircheckref36_Codes.f k ly = some c1 ∧ aircheckref36_Made.f k lz = some md ∧ (∀ i : Nat, i < 2 → mr_hok k (mr_two (lh.take 20) h1 i) (mr_two (mr_prs lp) md i)) ∧ (∀ i : Nat, i < 2 → ∀ j : Nat, j < 2 → mr_hcok k (mr_two (lh.take 20) h1 i) (mr_two (lc.take 20) c1 j) (mr_two (mr_prs lp) md j) (mr_tab lt) m1 m2 m3 m4 (lo.take 40) p0 p1 p2)
open Classical in
noncomputable def mr_if (p : Prop) : Option Bool := if p then some true else none
noncomputable section
def airchecklaw36_FingerprintMatchesReference.f (k : Nat) (lh lc : List Int) (lp : List S34) (m1 m2 m3 m4 : Int) (lo : List Int) (lt : List (List Int)) (lx ly : List Int) (lz : List (List Int)) (p0 p1 p2 : Int) : Option Bool := mr_if (mr_ok k lh lc lp m1 m2 m3 m4 lo lt lx ly lz p0 p1 p2)
end
theorem mr_f {k : Nat} {lh lc : List Int} {lp : List S34} {m1 m2 m3 m4 : Int} {lo : List Int} {lt : List (List Int)} {lx ly : List Int} {lz : List (List Int)} {p0 p1 p2 : Int} {r : Bool} (h : airchecklaw36_FingerprintMatchesReference.f k lh lc lp m1 m2 m3 m4 lo lt lx ly lz p0 p1 p2 = some r) : mr_ok k lh lc lp m1 m2 m3 m4 lo lt lx ly lz p0 p1 p2 ∧ r = true := by
 unfold airchecklaw36_FingerprintMatchesReference.f mr_if at h
 split at h
 ·next hk => exact ⟨hk, (Option.some.inj h).symm⟩
 ·cases h
set_option maxHeartbeats 400000000 in
set_option maxRecDepth 1000000 in
theorem airchecklaw36_FingerprintMatchesReference.calls (k : Nat) (Ah : Option Addr) (ch : Nat) (lh : List Int) (Ac : Option Addr) (cc : Nat) (lc : List Int) (Ap : Option Addr) (cp : Nat) (lp : List S34) (m1 m2 m3 m4 : Int) (Ao : Option Addr) (co : Nat) (lo : List Int) (At : Option Addr) (ct : Nat) (lt : List (List Int)) (Ax : Option Addr) (cx : Nat) (lx : List Int) (Ay : Option Addr) (cy : Nat) (ly : List Int) (Az : Option Addr) (cz : Nat) (lz : List (List Int)) (p0 p1 p2 : Int) (r : Bool) (hz0 : Aside0 (r = true)) (w : World) (hrh : Kd.C (Kd.int .i64) w Ah lh.length lh) (hch : lh.length ≤ ch) (hrc : Kd.C (Kd.int .i64) w Ac lc.length lc) (hcc : lc.length ≤ cc) (hrp : Kd.C k34 w Ap lp.length lp) (hcp : lp.length ≤ cp) (hro : Kd.C (Kd.int .i64) w Ao lo.length lo) (hco : lo.length ≤ co) (hrt : Kd.C (Kd.slice 3 (Kd.int .i64)) w At lt.length lt) (hct : lt.length ≤ ct) (hrx : Kd.C (Kd.int .i64) w Ax lx.length lx) (hcx : lx.length ≤ cx) (hry : Kd.C (Kd.int .i64) w Ay ly.length ly) (hcy : ly.length ≤ cy) (hrz : Kd.C (Kd.slice 3 (Kd.int .i64)) w Az lz.length lz) (hcz : lz.length ≤ cz) (h : airchecklaw36_FingerprintMatchesReference.f k lh lc lp m1 m2 m3 m4 lo lt lx ly lz p0 p1 p2 = some r) :
  Calls Try.prog 3 #[.agg #[.slice Ah lh.length ch, .slice Ac lc.length cc, .slice Ap lp.length cp, .int .i64 m1, .int .i64 m2, .int .i64 m3, .int .i64 m4, .slice Ao lo.length co, .slice At lt.length ct], .slice Ax lx.length cx, .slice Ay ly.length cy, .slice Az lz.length cz, .agg #[.int .i64 p0, .int .i64 p1, .int .i64 p2]] w fun e w' => e = .returned (.bool r) ∧ Below w.heap.size w w' := by
 obtain ⟨⟨h1, cd, md, eX, eY, eZ, eH, eV⟩, rfl⟩ := mr_f h
 have EX := Aside0.mk eX
 have EY := Aside0.mk eY
 have EZ := Aside0.mk eZ
 have EH := Aside0.mk eH
 have EV := Aside0.mk eV
 have RH := Aside0.mk hrh
 have LH := Aside0.mk hch
 have RC := Aside0.mk hrc
 have LC := Aside0.mk hcc
 have RP := Aside0.mk hrp
 have LP := Aside0.mk hcp
 have RO := Aside0.mk hro
 have LO := Aside0.mk hco
 have RT := Aside0.mk hrt
 have LT := Aside0.mk hct
 have RX := Aside0.mk hrx
 have LX := Aside0.mk hcx
 have RY := Aside0.mk hry
 have LY := Aside0.mk hcy
 have RZ := Aside0.mk hrz
 have LZ := Aside0.mk hcz
 have HQ := Aside0.mk (Below.refl w.heap.size w)
 clear eX eY eZ eH eV hrh hch hrc hcc hrp hcp hro hco hrt hct hrx hcx hry hcy hrz hcz h hz0
 obtain ⟨h0, hh0⟩ : ∃ r, lh.take 20 = r := ⟨_, rfl⟩
 obtain ⟨cl, hcl⟩ : ∃ r, lc.take 20 = r := ⟨_, rfl⟩
 obtain ⟨mo, hmo⟩ : ∃ r, lo.take 40 = r := ⟨_, rfl⟩
 rw [hh0] at EH EV
 rw [hcl, hmo] at EV
 have R0 := Aside0.mk (show Kd.C (Kd.int .i64) w Ah h0.length h0 by rw [← hh0]; exact mr_take RH.out 20)
 have L0 := Aside0.mk (show h0.length ≤ ch by rw [← hh0, List.length_take]; have := LH.out; omega)
 have R1 := Aside0.mk (show Kd.C (Kd.int .i64) w Ac cl.length cl by rw [← hcl]; exact mr_take RC.out 20)
 have L1 := Aside0.mk (show cl.length ≤ cc by rw [← hcl, List.length_take]; have := LC.out; omega)
 have R2 := Aside0.mk (show Kd.C (Kd.int .i64) w Ao mo.length mo by rw [← hmo]; exact mr_take RO.out 40)
 have L2 := Aside0.mk (show mo.length ≤ co by rw [← hmo, List.length_take]; have := LO.out; omega)
 have H0 := Aside0.mk hh0; have H1 := Aside0.mk hcl; have H2 := Aside0.mk hmo
 clear hh0 hcl hmo
 go_enter Try.func3, Try.ntmps3
 go_wp2_with (first | ((with_reducible refine gate_dst (N := 5) rfl ?_); (try (refine gate_guard (by rfl) ?_; dsimp only)); refine box_event ?hg (N := 5) ?hd (cs := #[.slice Ah lh.length ch, .slice Ac lc.length cc, .slice Ap lp.length cp, .int .i64 m1, .int .i64 m2, .int .i64 m3, .int .i64 m4, .slice Ao lo.length co, .slice At lt.length ct]) (t := 28) ?hr ?_; (case hd => rfl); (case hg => rfl); (case hr => first | (go_simp; done) | (go_simp; rfl)); intro gb hg w1 hbox hb; have n0_ := Aside0.mk (below_step HQ.out hb); have BR := Aside0.mk hbox; clear HQ hb hg hbox; have HQ := n0_; clear n0_) | ((with_reducible refine gate_dst (N := 9) rfl ?_); (try (refine gate_guard (by rfl) ?_; dsimp only)); refine box_event ?hg (N := 9) ?hd (cs := #[.int .i64 p0, .int .i64 p1, .int .i64 p2]) (t := 29) ?hr ?_; (case hd => rfl); (case hg => rfl); (case hr => first | (go_simp; done) | (go_simp; rfl)); intro ga hg w2 hbox hb; have n0_ := Aside0.mk (below_step HQ.out hb); have n1_ := Aside0.mk (blk_below BR.out hb); clear BR; have BR := n1_; clear n1_; have BA := Aside0.mk hbox; clear HQ hb hg hbox; have HQ := n0_; clear n0_))
 refine (airchecklaw36_sane.calls true _ rfl).mono ?_
 rintro e w3 ⟨rfl, hb⟩
 replace HQ := Aside0.mk (below_step HQ.out hb); replace BR := Aside0.mk (blk_below BR.out hb); replace BA := Aside0.mk (blk_below BA.out hb); clear hb
 have y0 : w3.cell? ⟨gb, 0, none⟩ = some (.slice Ah lh.length ch) := (blk_cell BR.out 0).trans rfl
 go_wp2_with (fail)
 refine (mr_few2 LH.out (by decide) (by decide) (show List.take (Int.toNat 20) lh = h0 from H0.out)).mono ?_
 rintro e w4 ⟨rfl, rfl⟩
 go_wp2_with (fail)
 refine (aircheckref36_Codes2.calls k Ax cx lx h1 _ (Kd.C_below RX.out HQ.out) LX.out EX.out).mono ?_
 rintro e w5 ⟨v, rfl, hr, hb⟩
 obtain ⟨Bx, bx, rfl, hc, hC⟩ := Kd.R_reads hr
 have HX := Aside0.mk hC; have MX := Aside0.mk hc; clear hr hc hC y0
 replace HQ := Aside0.mk (below_step HQ.out hb); replace BR := Aside0.mk (blk_below BR.out hb); replace BA := Aside0.mk (blk_below BA.out hb); clear hb
 have y1 : (w5.alloc (.cells #[.slice Ah h0.length ch, .slice Bx h1.length bx] 22)).cell? ⟨gb, 1, none⟩ = some (.slice Ac lc.length cc) := (blk_cell (blk_below BR.out (below_alloc (Below.refl w5.heap.size w5) _)) 1).trans rfl
 go_wp2_with (fail)
 have hb := below_alloc (Below.refl w5.heap.size w5) (.cells #[.slice Ah h0.length ch, .slice Bx h1.length bx] 22)
 obtain ⟨w6, hV⟩ : ∃ V, w5.alloc (.cells #[.slice Ah h0.length ch, .slice Bx h1.length bx] 22) = V := ⟨_, rfl⟩
 rw [hV] at hb ⊢
 have BH := Aside0.mk (show w6.heap[w5.heap.size]? = some (.cells #[.slice Ah h0.length ch, .slice Bx h1.length bx] 22 (0, 0)) by rw [← hV]; exact World.alloc_heap_new w5 _)
 clear hV
 replace HQ := Aside0.mk (below_step HQ.out hb); replace BR := Aside0.mk (blk_below BR.out hb); replace BA := Aside0.mk (blk_below BA.out hb); replace HX := Aside0.mk (Kd.C_below HX.out hb); clear hb
 obtain ⟨gh, hg⟩ : ∃ g1, w5.heap.size = g1 := ⟨_, rfl⟩
 rw [hg] at BH ⊢
 clear hg
 refine (mr_few2 LC.out (by decide) (by decide) (show List.take (Int.toNat 20) lc = cl from H1.out)).mono ?_
 rintro e w7 ⟨rfl, rfl⟩
 clear y1
 go_wp2_with (fail)
 refine (aircheckref36_Codes.calls k Ay cy ly cd _ (Kd.C_below RY.out HQ.out) LY.out EY.out).mono ?_
 rintro e w8 ⟨v, rfl, hr, hb⟩
 obtain ⟨By, b_y, rfl, hc, hC⟩ := Kd.R_reads hr
 have HY := Aside0.mk hC; have MY := Aside0.mk hc; clear hr hc hC
 replace HQ := Aside0.mk (below_step HQ.out hb); replace BR := Aside0.mk (blk_below BR.out hb); replace BA := Aside0.mk (blk_below BA.out hb); replace HX := Aside0.mk (Kd.C_below HX.out hb); replace BH := Aside0.mk (blk_below BH.out hb); clear hb
 have hy := blk_below BR.out (below_alloc (Below.refl w8.heap.size w8) (.cells #[.slice Ac cl.length cc, .slice By cd.length b_y] 22))
 have y3 : (w8.alloc (.cells #[.slice Ac cl.length cc, .slice By cd.length b_y] 22)).cell? ⟨gb, 3, none⟩ = some (.int .i64 m1) := (blk_cell hy 3).trans rfl
 have y4 : (w8.alloc (.cells #[.slice Ac cl.length cc, .slice By cd.length b_y] 22)).cell? ⟨gb, 4, none⟩ = some (.int .i64 m2) := (blk_cell hy 4).trans rfl
 have y5 : (w8.alloc (.cells #[.slice Ac cl.length cc, .slice By cd.length b_y] 22)).cell? ⟨gb, 5, none⟩ = some (.int .i64 m3) := (blk_cell hy 5).trans rfl
 have y6 : (w8.alloc (.cells #[.slice Ac cl.length cc, .slice By cd.length b_y] 22)).cell? ⟨gb, 6, none⟩ = some (.int .i64 m4) := (blk_cell hy 6).trans rfl
 have y7 : (w8.alloc (.cells #[.slice Ac cl.length cc, .slice By cd.length b_y] 22)).cell? ⟨gb, 7, none⟩ = some (.slice Ao lo.length co) := (blk_cell hy 7).trans rfl
 clear hy
 have z4 : ((w8.alloc (.cells #[.slice Ac cl.length cc, .slice By cd.length b_y] 22)).alloc (.cells #[.int .i64 m1, .int .i64 m2, .int .i64 m3, .int .i64 m4, .slice Ao lo.length co] 25)).cell? ⟨(w8.alloc (.cells #[.slice Ac cl.length cc, .slice By cd.length b_y] 22)).heap.size, 4, none⟩ = some (.slice Ao lo.length co) := (blk_cell (World.alloc_heap_new _ _) 4).trans rfl
 go_wp2_with (fail)
 clear y3 y4 y5 y6 y7
 have hb1 := below_alloc (below_alloc (Below.refl w8.heap.size w8) (.cells #[.slice Ac cl.length cc, .slice By cd.length b_y] 22)) (.cells #[.int .i64 m1, .int .i64 m2, .int .i64 m3, .int .i64 m4, .slice Ao lo.length co] 25)
 have BC0 := blk_alloc (World.alloc_heap_new w8 (.cells #[.slice Ac cl.length cc, .slice By cd.length b_y] 22)) (.cells #[.int .i64 m1, .int .i64 m2, .int .i64 m3, .int .i64 m4, .slice Ao lo.length co] 25)
 have BM0 := World.alloc_heap_new (w8.alloc (.cells #[.slice Ac cl.length cc, .slice By cd.length b_y] 22)) (.cells #[.int .i64 m1, .int .i64 m2, .int .i64 m3, .int .i64 m4, .slice Ao lo.length co] 25)
 simp only [World.size_alloc] at BM0 z4
 obtain ⟨S2, hS⟩ : ∃ S, (w8.alloc (.cells #[.slice Ac cl.length cc, .slice By cd.length b_y] 22)).alloc (.cells #[.int .i64 m1, .int .i64 m2, .int .i64 m3, .int .i64 m4, .slice Ao lo.length co] 25) = S := ⟨_, rfl⟩
 rw [hS] at hb1 BC0 BM0 z4 ⊢
 clear hS
 have hz4 := blk_frozen BM0 4
 refine (mr_few2 LO.out (by decide) (by decide) (show List.take (Int.toNat 40) lo = mo from H2.out)).mono ?_
 rintro e w9 ⟨rfl, rfl⟩
 go_wp2
 have hb := hb1.setCell (p := ⟨w8.heap.size + 1, 4, none⟩) (Nat.le_succ _) (.slice Ao mo.length co)
 have BC1 := (Below.heap_setCell w9 ⟨w8.heap.size + 1, 4, none⟩ (.slice Ao mo.length co) w8.heap.size (by show w8.heap.size ≠ w8.heap.size + 1; omega)).trans BC0
 have BM1 : (w9.setCell ⟨w8.heap.size + 1, 4, none⟩ (.slice Ao mo.length co)).heap[w8.heap.size + 1]? = some (.cells #[.int .i64 m1, .int .i64 m2, .int .i64 m3, .int .i64 m4, .slice Ao mo.length co] 25 (0, 0)) := blk_set BM0 4 (.slice Ao mo.length co)
 obtain ⟨w10, hS⟩ : ∃ S, w9.setCell ⟨w8.heap.size + 1, 4, none⟩ (.slice Ao mo.length co) = S := ⟨_, rfl⟩
 rw [hS] at hb BC1 BM1 ⊢
 have BC := Aside0.mk BC1; have BM := Aside0.mk BM1
 clear hS hb1 BC0 BM0 z4 hz4 BC1 BM1
 replace HQ := Aside0.mk (below_step HQ.out hb); replace BR := Aside0.mk (blk_below BR.out hb); replace BA := Aside0.mk (blk_below BA.out hb); replace HX := Aside0.mk (Kd.C_below HX.out hb); replace BH := Aside0.mk (blk_below BH.out hb); replace HY := Aside0.mk (Kd.C_below HY.out hb); clear hb
 obtain ⟨gc, hg⟩ : ∃ g1, w8.heap.size = g1 := ⟨_, rfl⟩
 rw [hg] at BC BM ⊢
 clear hg
 obtain ⟨gm, hg⟩ : ∃ g1, gc + 1 = g1 := ⟨_, rfl⟩
 rw [hg] at BM ⊢
 clear hg
 refine mr_seg0 _ _ _ _ _ _ _ _ _ _ _ _ _ _ _ _ _ _ _ _ _ _ _ _ _ _ _ _ _ _ _ _ _ _ _ _ _ _ _ _ _ _ _ _ _ _ _ _ _ _ _ _ _ _ _ _ _ _ _ _ _ _ _ _ _ _ _ _ _ _ _ _ _ _ _ _ _ _ _ _ _ _ _ _ _ _ _ _ _ _ _ _ _ _ _ _ _ _ _ _ _ _ _ _ _ _ _ _ _ _ _ _ _ _ _ _ _ _ _ _ _ _ _ _ _ _ _ _ _ _ _ _ _ _ _ _ _ _ _ _ _ _ _ _ _ _ _ _ _ _ _ _ _ _ _ _ _ _ _ _ _ _ _ _ _ _ _ _ _ _ _ _ _ _ _ _ _ _ _ _ _ _ _ _ _ _ _ _ _ _ _ _ _ _ _ _ _ _ _ _ _ _ _ _ _ _ _ _ _ _ _ _ _ _ _ _ _ _ _ _ _ _ _ _ _ _ _ _ _ _ _ _ _ _ _ _ _ _ _ _ _ _ _ _ _ _ _ _ _ _ _ _ _ _ _ _ _ _ _ _ _ _ _ _ _ _ _ _ _ _ _ _ _ _ _ _ _ _ _ _ _ _ _ _ _ _ _ _ _ _ _ _ _ _ _ _ _ _ _ _ _ _ _ _ _ _ _ _ _ _ _ _ _ _ _ _ _ _ _ _ _ _ _ _ _ _ _ _ _ _ _ _ _ _ _ _ _ _ _ _ _ _ _ _ _ _ _ _ _ _ _ _ _ _ _ _ _ _ _ BR ⟨Kd.C_below RT.out HQ.out⟩ LT ?_
 rintro u15 u16 u68 u69 u70 u71 u72 u73 u74 u75 u76 u77 u78 u79 u80 u81 u82 u83 u84 u85 u86 u87 w11 ⟨hb, A15, d15, rfl, hl, hC⟩
 have HT := Aside0.mk hC; have MT := Aside0.mk hl; clear hl hC
 replace HQ := Aside0.mk (below_step HQ.out hb); replace BR := Aside0.mk (blk_below BR.out hb); replace BA := Aside0.mk (blk_below BA.out hb); replace HX := Aside0.mk (Kd.C_below HX.out hb); replace BH := Aside0.mk (blk_below BH.out hb); replace HY := Aside0.mk (Kd.C_below HY.out hb); replace BC := Aside0.mk (blk_below BC.out hb); replace BM := Aside0.mk (blk_below BM.out hb); clear hb
 go_wp2
 refine mr_seg2 _ _ _ _ _ _ _ _ _ _ _ _ _ _ _ _ _ _ _ _ _ _ _ _ _ _ _ _ _ _ _ _ _ _ _ _ _ _ _ _ _ _ _ _ _ _ _ _ _ _ _ _ _ _ _ _ _ _ _ _ _ _ _ _ _ _ _ _ _ _ _ _ _ _ _ _ _ _ _ _ _ _ _ _ _ _ _ _ _ _ _ _ _ _ _ _ _ _ _ _ _ _ _ _ _ _ _ _ _ _ _ _ _ _ _ _ _ _ _ _ _ _ _ _ _ _ _ _ _ _ _ _ _ _ _ _ _ _ _ _ _ _ _ _ _ _ _ _ _ _ _ _ _ _ _ _ _ _ _ _ _ _ _ _ _ _ _ _ _ _ _ _ _ _ _ _ _ _ _ _ _ _ _ _ _ _ _ _ _ _ _ _ _ _ _ _ _ _ _ _ _ _ _ _ _ _ _ _ _ _ _ _ _ _ _ _ _ _ _ _ _ _ _ _ _ _ _ _ _ _ _ _ _ _ _ _ _ _ _ _ _ _ _ _ _ _ _ _ _ _ _ _ _ _ _ _ _ _ _ _ _ _ _ _ _ _ _ _ _ _ _ _ _ _ _ _ _ _ _ _ _ _ _ _ _ _ _ _ _ _ _ _ _ _ _ _ _ _ _ _ _ _ _ _ _ _ _ _ _ _ _ _ _ _ _ _ _ _ _ _ _ _ _ _ _ _ _ _ _ _ _ _ _ _ _ _ _ _ _ _ _ _ _ _ _ _ _ _ _ _ _ _ _ _ _ _ _ _ _ BR ⟨Kd.C_below RP.out HQ.out⟩ LP ?_
 rintro u17 u18 u88 u89 u90 u91 u92 u93 u94 u95 u96 u97 u98 u99 u100 u101 u102 u103 u104 u105 u106 u107 u108 u109 u110 u111 u112 u113 u114 u115 w12 ⟨hb, A17, d17, rfl, hl, hC⟩
 have HP := Aside0.mk hC; have MP := Aside0.mk hl; clear hl hC BR
 replace HQ := Aside0.mk (below_step HQ.out hb); replace BA := Aside0.mk (blk_below BA.out hb); replace HX := Aside0.mk (Kd.C_below HX.out hb); replace BH := Aside0.mk (blk_below BH.out hb); replace HY := Aside0.mk (Kd.C_below HY.out hb); replace BC := Aside0.mk (blk_below BC.out hb); replace BM := Aside0.mk (blk_below BM.out hb); replace HT := Aside0.mk (Kd.C_below HT.out hb); clear hb
 go_wp2_with (fail)
 refine (aircheckref36_Made.calls k Az cz lz md _ (Kd.C_below RZ.out HQ.out) LZ.out EZ.out).mono ?_
 rintro e w13 ⟨v, rfl, hn, hb⟩
 obtain ⟨Bz, bz, rfl, hc, hC⟩ := Kd.N_reads hn
 have HZ := Aside0.mk hC; have MZ := Aside0.mk hc; clear hn hc hC
 replace HQ := Aside0.mk (below_step HQ.out hb); replace BA := Aside0.mk (blk_below BA.out hb); replace HX := Aside0.mk (Kd.C_below HX.out hb); replace BH := Aside0.mk (blk_below BH.out hb); replace HY := Aside0.mk (Kd.C_below HY.out hb); replace BC := Aside0.mk (blk_below BC.out hb); replace BM := Aside0.mk (blk_below BM.out hb); replace HT := Aside0.mk (Kd.C_below HT.out hb); replace HP := Aside0.mk (Kd.C_below HP.out hb); clear hb
 go_wp2
 have hb := below_alloc (Below.refl w13.heap.size w13) (.cells #[.slice A17 (mr_prs lp).length d17, .slice Bz md.length bz] 23)
 obtain ⟨w14, hV⟩ : ∃ V, w13.alloc (.cells #[.slice A17 (mr_prs lp).length d17, .slice Bz md.length bz] 23) = V := ⟨_, rfl⟩
 rw [hV] at hb ⊢
 have BS := Aside0.mk (show w14.heap[w13.heap.size]? = some (.cells #[.slice A17 (mr_prs lp).length d17, .slice Bz md.length bz] 23 (0, 0)) by rw [← hV]; exact World.alloc_heap_new w13 _)
 clear hV
 replace HQ := Aside0.mk (below_step HQ.out hb); replace BA := Aside0.mk (blk_below BA.out hb); replace HX := Aside0.mk (Kd.C_below HX.out hb); replace BH := Aside0.mk (blk_below BH.out hb); replace HY := Aside0.mk (Kd.C_below HY.out hb); replace BC := Aside0.mk (blk_below BC.out hb); replace BM := Aside0.mk (blk_below BM.out hb); replace HT := Aside0.mk (Kd.C_below HT.out hb); replace HP := Aside0.mk (Kd.C_below HP.out hb); replace HZ := Aside0.mk (Kd.C_below HZ.out hb); clear hb
 obtain ⟨gs, hg⟩ : ∃ g1, w13.heap.size = g1 := ⟨_, rfl⟩
 rw [hg] at BS ⊢
 clear hg
 refine mr_seg4 _ _ _ _ _ _ _ _ _ _ _ _ _ _ _ _ _ _ _ _ _ _ _ _ _ _ _ _ _ _ _ _ _ _ _ _ _ _ _ _ _ _ _ _ _ _ _ _ _ _ _ _ _ _ _ _ _ _ _ _ _ _ _ _ _ _ _ _ _ _ _ _ _ _ _ _ _ _ _ _ _ _ _ _ _ _ _ _ _ _ _ _ _ _ _ _ _ _ _ _ _ _ _ _ _ _ _ _ _ _ _ _ _ _ _ _ _ _ _ _ _ _ _ _ _ _ _ _ _ _ _ _ _ _ _ _ _ _ _ _ _ _ _ _ _ _ _ _ _ _ _ _ _ _ _ _ _ _ _ _ _ _ _ _ _ _ _ _ _ _ _ _ _ _ _ _ _ _ _ _ _ _ _ _ _ _ _ _ _ _ _ _ _ _ _ _ _ _ _ _ _ _ _ _ _ _ _ _ _ _ _ _ _ _ _ _ _ _ _ _ _ _ _ _ _ _ _ _ _ _ _ _ _ _ _ _ _ _ _ _ _ _ _ _ _ _ _ _ _ _ _ _ _ _ _ _ _ _ _ _ _ _ _ _ _ _ _ _ _ _ _ _ _ _ _ _ _ _ _ _ _ _ _ _ _ _ _ _ _ _ _ _ _ _ _ _ _ _ _ _ _ _ _ _ _ _ _ _ _ _ _ _ _ _ _ _ _ _ _ _ _ _ _ _ _ _ _ _ _ _ _ _ _ _ _ _ _ _ _ _ _ _ _ _ _ _ _ _ _ _ _ _ _ _ _ (hs := mr_two h0 h1) (cs := mr_two cl cd) (als := mr_two (mr_prs lp) md) ⟨mr_lists2 BH.out (Kd.C_below R0.out HQ.out) HX.out L0.out MX.out⟩ ⟨mr_lists2 BC.out (Kd.C_below R1.out HQ.out) HY.out L1.out MY.out⟩ ⟨mr_lists2 BS.out HP.out HZ.out MP.out MZ.out⟩ HT MT BM ⟨Kd.C_below R2.out HQ.out⟩ L2 BA EH EV ?_
 intro u10 u20 u21 u22 u23 u24 u25 u26 u27 u28 u29 u30 u31 u32 u33 u34 u35 u36 u37 u38 u39 u40 u41 u42 u43 u44 u45 u46 u120 u121 u122 u123 u124 u125 u126 u127 u128 u129 u130 u131 u132 u133 u134 u135 u136 u137 u138 u139 u140 u141 u142 u143 u144 u145 u146 u147 u148 u149 u150 u151 u152 u153 u154 u155 u156 u157 u158 u159 u160 u161 u162 u163 u164 u165 u166 u167 u168 u169 u170 u171 u172 u173 u174 u175 u176 u177 u178 u179 u180 u181 u182 u183 u184 u185 u186 u187 u188 u189 u190 u191 u192 u193 u194 u195 u196 u197 u198 u199 u200 u201 u202 u203 u204 u205 u206 u207 u208 u209 u210 u211 u212 u213 u214 u215 u216 u217 u218 u219 u220 u221 u222 u223 u224 u225 u226 u227 u228 u229 u230 u231 u232 u233 u234 u235 u236 u237 u238 u239 u240 u241 u242 u243 u244 u245 u246 u247 u248 u249 u250 u251 u252 u253 u254 u255 u256 u257 u258 u259 u260 u261 u262 u263 u264 u265 u266 u267 u268 u269 u270 u271 u272 u273 u274 u275 u276 u277 u278 u279 u280 u281 u282 u283 u284 u285 u286 u287 u288 u289 u290 u291 u292 u293 u294 u295 u296 u297 u298 u299 u300 u301 u302 u303 u304 u305 u306 u307 u308 u309 u310 u311 u312 u313 u314 u315 u316 u317 u318 u319 u320 u321 u322 u323 u324 u325 u326 u327 u328 u329 u330 u331 u332 u333 u334 u335 u336 u337 u338 u339 u340 u341 u342 u343 u344 u345 u346 u347 u348 u349 u350 u351 u352 u353 u354 u355 u356 u357 u358 u359 w15 hb
 replace HQ := Aside0.mk (below_step HQ.out hb); clear hb
 go_wp2
 go_ret
 exact ⟨rfl, HQ.out⟩

end Go.Proofs.Ytgaepndbfpfniaa.PFR
