-- PRINTED by print.py (a twelfth state) out of the translation. Not trusted: Lean checks it.
import Derived.Test.YtgaepndbfpfniaaPFRx0
import Derived.Test.YtgaepndbfpfniaaPFRx32
import Derived.RangeFuncNested
import Derived.RangeFuncBound
import Derived.RangeFuncCalls
import Derived.RangeFuncLeaves
import Derived.RangeFuncBox
import Derived.Shelf.Abstract
import Derived.Shelf.RegionOpen
import Derived.OwnWalkIn
import Derived.TacticsInMore
import Derived.LoopNIn
import Derived.LoopIn
import Derived.OneCell
import Derived.BigQuiet
import Derived.Deep.RegionWith
import Derived.Deep.RegionHeld3
import Derived.Deep.RegionLaw
import Derived.IntWalk
import Derived.Lib.SliceRun
import Derived.Deep.RegionLawGrows
namespace Go.Proofs.Ytgaepndbfpfniaa.PFR
open Go.RowKit Go.Proofs.YtgaepndbfpfniaaW.PrintWords Go.Proofs.YtgaepndbfpfniaaW.PrintLast Go.Proofs.YtgaepndbfpfniaaW.PrintMore
attribute [local go_sem] max2_int min2_int max_two min_two max_three min_three max_four min_four   -- for this text's walks alone
set_option linter.unusedVariables false
set_option linter.unusedSimpArgs false

attribute [local go_sem] Oper.semAt_some
open Go.Shelf
-- given by hand: mr4
theorem mr_few {A0 : Option Addr} {d0 : Nat} {l0 : List Int} {n : Int} {w : World} (hc : l0.length ≤ d0) (h0 : 0 ≤ n) (h1 : n ≤ 1000) : Calls Try.prog 11 #[.slice A0 l0.length d0, .int .i64 n] w fun e w' => e = .returned (.slice A0 (l0.take n.toNat).length d0) ∧ w' = w := by
 obtain ⟨i0, hi0, _, hs, _⟩ := info_parts info3
 obtain ⟨m, hm⟩ : ∃ m : Nat, (l0.take n.toNat).length = m := ⟨_, rfl⟩
 have hmm : (if n < (l0.length : Int) then n else (l0.length : Int)) = (m : Int) := by rw [← hm, List.length_take]; split <;> omega
 have hmn : mn (l0.length : Int) n = (m : Int) := hmm
 have hk : m ≤ l0.length := by rw [← hm, List.length_take]; omega
 have hcut := cut_to (P := Try.prog) 22 3 .i64 Try.underlying22 hi0 A0 l0.length d0 (m : Int) (by omega) (by omega) hc
 rw [Int.toNat_natCast] at hcut
 rw [hm]
 clear hm hk hc hi0 hs
 go_enter Try.func11, Try.ntmps11
 go_wp2
 go_ret
 exact ⟨rfl, rfl⟩
theorem mr_take {w : World} {A : Option Addr} {l : List Int} (h : Kd.C (Kd.int .i64) w A l.length l) (n : Nat) : Kd.C (Kd.int .i64) w A (l.take n).length (l.take n) := by
 by_cases hn : n ≤ l.length
 ·exact Kd.C_take h hn
 ·rw [List.take_of_length_le (by omega)]; exact h
theorem mr_few2 {A0 : Option Addr} {d0 : Nat} {l0 r : List Int} {n : Int} {w : World} (hc : l0.length ≤ d0) (h0 : 0 ≤ n) (h1 : n ≤ 1000) (hr : l0.take n.toNat = r) : Calls Try.prog 11 #[.slice A0 l0.length d0, .int .i64 n] w fun e w' => e = .returned (.slice A0 r.length d0) ∧ w' = w := by
 subst hr
 exact mr_few hc h0 h1
theorem mr_few3 {A0 : Option Addr} {d0 : Nat} {l0 r : List Int} {n : Int} {w : World} (hc : l0.length ≤ d0) (h0 : 0 ≤ n) (h1 : n ≤ 1000) (hr : l0.take n.toNat = r) : Calls Try.prog 11 #[.slice A0 l0.length d0, .int .i64 n] w fun e w' => e = .returned (.slice A0 r.length d0) ∧ ∃ m, w' = w.drewN m := (mr_few2 hc h0 h1 hr).mono (fun e w' h => ⟨h.1, 0, by rw [h.2]; rfl⟩)
theorem mr_gate {o : Oper} {y : Nat → Option Bool} {A B : Prop} (n : Tmp) (h0 : o.dst = some n) (h : if Region.wanted o y = true then A else B) : if Region.wanted o y = true then A else B := h
theorem mr_S3 {T W : World} {p q r : Addr} {x y z : Value} (hb : Below T.heap.size T W) (h : T.cell? p = some x) (h' : T.cell? q = some y) (h2 : T.cell? r = some z) : W.cell? p = some x ∧ W.cell? q = some y ∧ W.cell? r = some z ∧ Aside0 (Below T.heap.size T W) := ⟨pw_cell_below hb h, pw_cell_below hb h', pw_cell_below hb h2, ⟨hb⟩⟩
def kv (T : World) : Kd (List Int) where
 sz := 1
 E := []
 K := fun _ xs cs => ∃ A c, cs = [.slice A xs.length c] ∧ xs.length ≤ c ∧ Kd.C (Kd.int .i64) T A xs.length xs
 M := fun _ _ _ xs cs => ∃ A c, cs = [.slice A xs.length c] ∧ xs.length ≤ c ∧ Kd.C (Kd.int .i64) T A xs.length xs
 K_len := by
  rintro w x cs ⟨A, c, rfl, _⟩
  rfl
 K_one := by
  rintro w x cs ⟨A, c, rfl, _⟩ u hu
  simp at hu
  subst hu
  rfl
 K_below := fun _ h => h
 K_of_M := fun h => h
 M_mono := fun _ h => h
 M_bound := fun h => h
 M_move := fun _ h => h
 M_lower := fun _ h => h
theorem kv_C {T W : World} {A : Option Addr} {n : Nat} {xs : List (List Int)} (hb : Below T.heap.size T W) (h : Kd.C (kv T) W A n xs) : Kd.C (Kd.slice 3 (Kd.int .i64)) W A n xs := by
 refine ⟨h.1, h.2.1, fun hp => ?_⟩
 obtain ⟨ad, e, hc⟩ := h.2.2 hp
 refine ⟨ad, e, fun j p hj => ?_⟩
 obtain ⟨c, hs, ⟨A', c', e', hl, hC⟩, hcell⟩ := hc j p hj
 exact ⟨c, hs, ⟨A', c', e', hl, Kd.C_below hC hb⟩, hcell⟩
def kp (T : World) : Kd S34 where
 sz := 2
 E := []
 K := fun _ x cs => ∃ A c, cs = [.int .i64 x.f0, .slice A x.f1.length c] ∧ x.f1.length ≤ c ∧ Kd.C (Kd.int .i64) T A x.f1.length x.f1
 M := fun _ _ _ x cs => ∃ A c, cs = [.int .i64 x.f0, .slice A x.f1.length c] ∧ x.f1.length ≤ c ∧ Kd.C (Kd.int .i64) T A x.f1.length x.f1
 K_len := by
  rintro w x cs ⟨A, c, rfl, _⟩
  rfl
 K_one := by
  rintro w x cs ⟨A, c, rfl, _⟩ u hu
  simp at hu
  rcases hu with rfl | rfl <;> rfl
 K_below := fun _ h => h
 K_of_M := fun h => h
 M_mono := fun _ h => h
 M_bound := fun h => h
 M_move := fun _ h => h
 M_lower := fun _ h => h
theorem kp_C {T W : World} {A : Option Addr} {n : Nat} {xs : List S34} (hb : Below T.heap.size T W) (h : Kd.C (kp T) W A n xs) : Kd.C k34 W A n xs := by
 refine ⟨h.1, h.2.1, fun hp => ?_⟩
 obtain ⟨ad, e, hc⟩ := h.2.2 hp
 refine ⟨ad, e, fun j p hj => ?_⟩
 obtain ⟨c, hs, ⟨A', c', e', hl, hC⟩, hcell⟩ := hc j p hj
 subst e'
 exact ⟨_, hs, k34_mk W p hl (Kd.C_below hC hb), hcell⟩
def mr_tab (lt : List (List Int)) : List (List Int) := (lt.take 20).map (fun l => l.take 20)
def mr_prs (lp : List S34) : List S34 := (lp.take 4).map (fun p => ⟨p.f0, p.f1.take 20⟩)
noncomputable def mr_l0 : Code := ((Try.f3.body.bind (mr_lp 0)).getD .skip)
set_option maxHeartbeats 400000000 in
set_option maxRecDepth 1000000 in
theorem mr_seg0 {gb ch cc cp co ct : Nat} {lh lc lo : List Int} {lp : List S34} {lt : List (List Int)} {m1 m2 m3 m4 : Int} {Ah Ac Ap Ao At : Option Addr} {T : World} (c0 c1 c2 c3 c4 c6 c7 c8 c9 c10 c11 c12 c13 c14 c17 c18 c19 c20 c21 c22 c23 c24 c25 c26 c27 c28 c29 c30 c31 c32 c33 c34 c35 c36 c37 c38 c39 c40 c41 c42 c43 c44 c45 c46 c47 c48 c49 c50 c51 c52 c53 c54 c55 c56 c57 c58 c59 c60 c61 c62 c63 c64 c65 c66 c67 c68 c69 c70 c71 c72 c73 c74 c75 c76 c77 c78 c79 c80 c81 c82 c83 c84 c85 c86 c87 c88 c89 c90 c91 c92 c93 c94 c95 c96 c97 c98 c99 c100 c101 c102 c103 c104 c105 c106 c107 c108 c109 c110 c111 c112 c113 c114 c115 c116 c117 c118 c119 c120 c121 c122 c123 c124 c125 c126 c127 c128 c129 c130 c131 c132 c133 c134 c135 c136 c137 c138 c139 c140 c141 c142 c143 c144 c145 c146 c147 c148 c149 c150 c151 c152 c153 c154 c155 c156 c157 c158 c159 c160 c161 c162 c163 c164 c165 c166 c167 c168 c169 c170 c171 c172 c173 c174 c175 c176 c177 c178 c179 c180 c181 c182 c183 c184 c185 c186 c187 c188 c189 c190 c191 c192 c193 c194 c195 c196 c197 c198 c199 c200 c201 c202 c203 c204 c205 c206 c207 c208 c209 c210 c211 c212 c213 c214 c215 c216 c217 c218 c219 c220 c221 c222 c223 c224 c225 c226 c227 c228 c229 c230 c231 c232 c233 c234 c235 c236 c237 c238 c239 c240 c241 c242 c243 c244 c245 c246 c247 c248 c249 c250 c251 c252 c253 c254 c255 c256 c257 c258 c259 c260 c261 c262 c263 c264 c265 c266 c267 c268 c269 c270 c271 c272 c273 c274 c275 c276 c277 c278 c279 c280 c281 c282 c283 c284 c285 c286 c287 c288 c289 c290 c291 c292 c293 c294 c295 c296 c297 c298 c299 c300 c301 c302 c303 c304 c305 c306 c307 c308 c309 c310 c311 c312 c313 c314 c315 c316 c317 c318 c319 c320 c321 c322 c323 c324 c325 c326 c327 c328 c329 c330 c331 c332 c333 c334 c335 c336 c337 c338 c339 c340 c341 c342 c343 c344 c345 c346 c347 c348 c349 c350 c351 c352 c353 c354 c355 c356 c357 c358 c359 c360 : Value) (Q : Exit → Act → World → Prop) (HB : Aside0 (T.heap[gb]? = some (.cells #[.slice Ah lh.length ch, .slice Ac lc.length cc, .slice Ap lp.length cp, .int .i64 m1, .int .i64 m2, .int .i64 m3, .int .i64 m4, .slice Ao lo.length co, .slice At lt.length ct] 28 (0, 0)))) (HT : Aside0 (Kd.C (Kd.slice 3 (Kd.int .i64)) T At lt.length lt)) (HLT : Aside0 (lt.length ≤ ct)) (hx : ∀ (u15 u16 u68 u69 u70 u71 u72 u73 u74 u75 u76 u77 u78 u79 u80 u81 u82 u83 u84 u85 u86 u87 : Value) (w' : World), (Below T.heap.size T w' ∧ ∃ (A : Option Addr) (dt : Nat), u15 = .slice A (mr_tab lt).length dt ∧ (mr_tab lt).length ≤ dt ∧ Kd.C (Kd.slice 3 (Kd.int .i64)) w' A (mr_tab lt).length (mr_tab lt)) → Q (.exit 0) ⟨List.toArray (c0 :: c1 :: c2 :: c3 :: c4 :: .pointer (some ⟨gb, 0, none⟩) :: c6 :: c7 :: c8 :: c9 :: c10 :: c11 :: c12 :: c13 :: c14 :: u15 :: u16 :: c17 :: c18 :: c19 :: c20 :: c21 :: c22 :: c23 :: c24 :: c25 :: c26 :: c27 :: c28 :: c29 :: c30 :: c31 :: c32 :: c33 :: c34 :: c35 :: c36 :: c37 :: c38 :: c39 :: c40 :: c41 :: c42 :: c43 :: c44 :: c45 :: c46 :: c47 :: c48 :: c49 :: c50 :: c51 :: c52 :: c53 :: c54 :: c55 :: c56 :: c57 :: c58 :: c59 :: c60 :: c61 :: c62 :: c63 :: c64 :: c65 :: c66 :: c67 :: u68 :: u69 :: u70 :: u71 :: u72 :: u73 :: u74 :: u75 :: u76 :: u77 :: u78 :: u79 :: u80 :: u81 :: u82 :: u83 :: u84 :: u85 :: u86 :: u87 :: c88 :: c89 :: c90 :: c91 :: c92 :: c93 :: c94 :: c95 :: c96 :: c97 :: c98 :: c99 :: c100 :: c101 :: c102 :: c103 :: c104 :: c105 :: c106 :: c107 :: c108 :: c109 :: c110 :: c111 :: c112 :: c113 :: c114 :: c115 :: c116 :: c117 :: c118 :: c119 :: c120 :: c121 :: c122 :: c123 :: c124 :: c125 :: c126 :: c127 :: c128 :: c129 :: c130 :: c131 :: c132 :: c133 :: c134 :: c135 :: c136 :: c137 :: c138 :: c139 :: c140 :: c141 :: c142 :: c143 :: c144 :: c145 :: c146 :: c147 :: c148 :: c149 :: c150 :: c151 :: c152 :: c153 :: c154 :: c155 :: c156 :: c157 :: c158 :: c159 :: c160 :: c161 :: c162 :: c163 :: c164 :: c165 :: c166 :: c167 :: c168 :: c169 :: c170 :: c171 :: c172 :: c173 :: c174 :: c175 :: c176 :: c177 :: c178 :: c179 :: c180 :: c181 :: c182 :: c183 :: c184 :: c185 :: c186 :: c187 :: c188 :: c189 :: c190 :: c191 :: c192 :: c193 :: c194 :: c195 :: c196 :: c197 :: c198 :: c199 :: c200 :: c201 :: c202 :: c203 :: c204 :: c205 :: c206 :: c207 :: c208 :: c209 :: c210 :: c211 :: c212 :: c213 :: c214 :: c215 :: c216 :: c217 :: c218 :: c219 :: c220 :: c221 :: c222 :: c223 :: c224 :: c225 :: c226 :: c227 :: c228 :: c229 :: c230 :: c231 :: c232 :: c233 :: c234 :: c235 :: c236 :: c237 :: c238 :: c239 :: c240 :: c241 :: c242 :: c243 :: c244 :: c245 :: c246 :: c247 :: c248 :: c249 :: c250 :: c251 :: c252 :: c253 :: c254 :: c255 :: c256 :: c257 :: c258 :: c259 :: c260 :: c261 :: c262 :: c263 :: c264 :: c265 :: c266 :: c267 :: c268 :: c269 :: c270 :: c271 :: c272 :: c273 :: c274 :: c275 :: c276 :: c277 :: c278 :: c279 :: c280 :: c281 :: c282 :: c283 :: c284 :: c285 :: c286 :: c287 :: c288 :: c289 :: c290 :: c291 :: c292 :: c293 :: c294 :: c295 :: c296 :: c297 :: c298 :: c299 :: c300 :: c301 :: c302 :: c303 :: c304 :: c305 :: c306 :: c307 :: c308 :: c309 :: c310 :: c311 :: c312 :: c313 :: c314 :: c315 :: c316 :: c317 :: c318 :: c319 :: c320 :: c321 :: c322 :: c323 :: c324 :: c325 :: c326 :: c327 :: c328 :: c329 :: c330 :: c331 :: c332 :: c333 :: c334 :: c335 :: c336 :: c337 :: c338 :: c339 :: c340 :: c341 :: c342 :: c343 :: c344 :: c345 :: c346 :: c347 :: c348 :: c349 :: c350 :: c351 :: c352 :: c353 :: c354 :: c355 :: c356 :: c357 :: c358 :: c359 :: c360 :: []), []⟩ w') :
  Code.wp Try.prog mr_l0 Q ⟨List.toArray (c0 :: c1 :: c2 :: c3 :: c4 :: .pointer (some ⟨gb, 0, none⟩) :: c6 :: c7 :: c8 :: c9 :: c10 :: c11 :: c12 :: c13 :: c14 :: .slice none 0 0 :: .int .i64 0 :: c17 :: c18 :: c19 :: c20 :: c21 :: c22 :: c23 :: c24 :: c25 :: c26 :: c27 :: c28 :: c29 :: c30 :: c31 :: c32 :: c33 :: c34 :: c35 :: c36 :: c37 :: c38 :: c39 :: c40 :: c41 :: c42 :: c43 :: c44 :: c45 :: c46 :: c47 :: c48 :: c49 :: c50 :: c51 :: c52 :: c53 :: c54 :: c55 :: c56 :: c57 :: c58 :: c59 :: c60 :: c61 :: c62 :: c63 :: c64 :: c65 :: c66 :: c67 :: c68 :: c69 :: c70 :: c71 :: c72 :: c73 :: c74 :: c75 :: c76 :: c77 :: c78 :: c79 :: c80 :: c81 :: c82 :: c83 :: c84 :: c85 :: c86 :: c87 :: c88 :: c89 :: c90 :: c91 :: c92 :: c93 :: c94 :: c95 :: c96 :: c97 :: c98 :: c99 :: c100 :: c101 :: c102 :: c103 :: c104 :: c105 :: c106 :: c107 :: c108 :: c109 :: c110 :: c111 :: c112 :: c113 :: c114 :: c115 :: c116 :: c117 :: c118 :: c119 :: c120 :: c121 :: c122 :: c123 :: c124 :: c125 :: c126 :: c127 :: c128 :: c129 :: c130 :: c131 :: c132 :: c133 :: c134 :: c135 :: c136 :: c137 :: c138 :: c139 :: c140 :: c141 :: c142 :: c143 :: c144 :: c145 :: c146 :: c147 :: c148 :: c149 :: c150 :: c151 :: c152 :: c153 :: c154 :: c155 :: c156 :: c157 :: c158 :: c159 :: c160 :: c161 :: c162 :: c163 :: c164 :: c165 :: c166 :: c167 :: c168 :: c169 :: c170 :: c171 :: c172 :: c173 :: c174 :: c175 :: c176 :: c177 :: c178 :: c179 :: c180 :: c181 :: c182 :: c183 :: c184 :: c185 :: c186 :: c187 :: c188 :: c189 :: c190 :: c191 :: c192 :: c193 :: c194 :: c195 :: c196 :: c197 :: c198 :: c199 :: c200 :: c201 :: c202 :: c203 :: c204 :: c205 :: c206 :: c207 :: c208 :: c209 :: c210 :: c211 :: c212 :: c213 :: c214 :: c215 :: c216 :: c217 :: c218 :: c219 :: c220 :: c221 :: c222 :: c223 :: c224 :: c225 :: c226 :: c227 :: c228 :: c229 :: c230 :: c231 :: c232 :: c233 :: c234 :: c235 :: c236 :: c237 :: c238 :: c239 :: c240 :: c241 :: c242 :: c243 :: c244 :: c245 :: c246 :: c247 :: c248 :: c249 :: c250 :: c251 :: c252 :: c253 :: c254 :: c255 :: c256 :: c257 :: c258 :: c259 :: c260 :: c261 :: c262 :: c263 :: c264 :: c265 :: c266 :: c267 :: c268 :: c269 :: c270 :: c271 :: c272 :: c273 :: c274 :: c275 :: c276 :: c277 :: c278 :: c279 :: c280 :: c281 :: c282 :: c283 :: c284 :: c285 :: c286 :: c287 :: c288 :: c289 :: c290 :: c291 :: c292 :: c293 :: c294 :: c295 :: c296 :: c297 :: c298 :: c299 :: c300 :: c301 :: c302 :: c303 :: c304 :: c305 :: c306 :: c307 :: c308 :: c309 :: c310 :: c311 :: c312 :: c313 :: c314 :: c315 :: c316 :: c317 :: c318 :: c319 :: c320 :: c321 :: c322 :: c323 :: c324 :: c325 :: c326 :: c327 :: c328 :: c329 :: c330 :: c331 :: c332 :: c333 :: c334 :: c335 :: c336 :: c337 :: c338 :: c339 :: c340 :: c341 :: c342 :: c343 :: c344 :: c345 :: c346 :: c347 :: c348 :: c349 :: c350 :: c351 :: c352 :: c353 :: c354 :: c355 :: c356 :: c357 :: c358 :: c359 :: c360 :: []), []⟩ T := by
 conv => arg 2; whnf
 go_loopw [15, 16] (fun o p wr => ∃ (j : Nat), j ≤ 20 ∧ j ≤ lt.length ∧ p = .int .i64 j ∧ Aside0 (Below T.heap.size T wr) ∧ Aside0 (Kd.R (kv T) 22 wr T.heap.size (fun _ => True) o ((lt.take j).map (fun l => l.take 20)))) (fun _ p _ => 20 - (intOf p).toNat)
 case atStart => exact ⟨0, by omega, by omega, rfl, ⟨Below.refl _ _⟩, ⟨by simpa using Kd.R_nil _ _ _ _ _⟩⟩
 case round =>
  obtain ⟨j, hj, hjl, rfl, HQ, HR⟩ := hrel
  obtain ⟨ao, co', rfl⟩ := Kd.R_slice HR.out
  have y8 : wr.cell? ⟨gb, 8, none⟩ = some (.slice At lt.length ct) := (blk_cell (blk_below HB.out HQ.out) 8).trans rfl
  by_cases h1 : j < lt.length
  ·by_cases h2 : j < 20
   ·have i1 : (j : Int) < (lt.length : Int) := by omega
    have i2 : (j : Int) < 20 := by omega
    have i3 : (0 : Int) ≤ (j : Int) := by omega
    obtain ⟨ad, Ar, cr, rfl, hx, hl, hr⟩ := at_L1 HT.out (j : Int) i3 i1
    rw [Int.toNat_natCast] at hx
    replace hx := pw_cell_below HQ.out hx
    obtain ⟨row, hrow⟩ : ∃ row, rd_L1 lt (j : Int) = row := ⟨_, rfl⟩
    have HE := Aside0.mk (show (lt.take j).map (fun l => l.take 20) ++ [row.take 20] = (lt.take (j + 1)).map (fun l => l.take 20) by
     rw [List.take_succ_eq_append_getElem h1, List.map_append, ← hrow]; simp [rd_L1, h1])
    rw [hrow] at hx hl hr
    have HX := Aside0.mk hl; have HC := Aside0.mk hr; have HJ := Aside0.mk (And.intro h1 h2)
    obtain ⟨out, hout⟩ : ∃ o, (lt.take j).map (fun l => l.take 20) = o := ⟨_, rfl⟩
    have HLN := Aside0.mk (show out.length ≤ 20 by rw [← hout]; simp; omega)
    obtain ⟨r20, hr20⟩ : ∃ r, row.take 20 = r := ⟨_, rfl⟩
    have HL2 := Aside0.mk (show r20.length ≤ cr by rw [← hr20, List.length_take]; omega)
    have HC2 := Aside0.mk (show Kd.C (Kd.int .i64) T Ar r20.length r20 by rw [← hr20]; exact mr_take hr 20)
    have H20 := Aside0.mk hr20
    rw [hr20] at HE
    rw [hout] at HR HE ⊢
    clear hl hr hrow hout h1 h2 hr20
    go_wp2_with (fail)
    refine (mr_few HX.out (by decide) (by decide)).mono ?_
    rintro e w1 ⟨rfl, rfl⟩
    rw [show List.take (Int.toNat 20) row = r20 from H20.out]
    go_wp2_with (at_builtin; refine Kd.R_append (kv T) (w0 := T) T.heap.size rfl (.tmp 79) (.tmp 86) 26 22 (.slice none 0 0) 24 rfl Try.underlying26 info22 rfl (show 0 < 1 by decide) (by decide) (.slice ao out.length co') out r20 [.slice Ar r20.length cr] (fun _ => True) (fun _ => False) rfl rfl ⟨Ar, cr, rfl, HL2.out, HC2.out⟩ (fun _ h => h.elim) (fun _ _ => trivial) HR.out HQ.out HQ.out.size (by have := HLN.out; omega) ?_; intro v1 w1 ho hb1 _ _; have HR1 := Aside0.mk ho; have HQ1 := Aside0.mk hb1; clear ho hb1)
    rw [HE.out] at HR1
    go_roundw
    case rel => exact ⟨j + 1, by have := HJ.out; omega, by have := HJ.out; omega, by go_num, HQ1, HR1⟩
    case measure => simp [intOf]; have := HJ.out; omega
   ·have i1 : (j : Int) < (lt.length : Int) := by omega
    obtain rfl : j = 20 := by omega
    obtain ⟨-, hl, hC⟩ := Kd.R_reads' HR.out
    have hE : (lt.take 20).map (fun l => l.take 20) = mr_tab lt := by unfold mr_tab; rfl
    have hb := HQ.out
    rw [hE] at hl hC ⊢
    have HH := Aside0.mk (show Below T.heap.size T wr ∧ ∃ (A : Option Addr) (dt : Nat), (.slice ao (mr_tab lt).length co' : Value) = .slice A (mr_tab lt).length dt ∧ (mr_tab lt).length ≤ dt ∧ Kd.C (Kd.slice 3 (Kd.int .i64)) wr A (mr_tab lt).length (mr_tab lt) from ⟨hb, ao, co', rfl, hl, kv_C hb hC⟩)
    clear hl hC hE hb HR HQ
    have i4 : (20 : Int) < (lt.length : Int) := by omega
    go_wp2
    exact HH.out
  ·have i1 : decide ((j : Int) < (lt.length : Int)) = false := decide_eq_false (by omega)
   obtain ⟨-, hl, hC⟩ := Kd.R_reads' HR.out
   have hE : (lt.take j).map (fun l => l.take 20) = mr_tab lt := by unfold mr_tab; rw [show j = lt.length from by omega, List.take_of_length_le (Nat.le_refl _), List.take_of_length_le (by omega)]
   have hb := HQ.out
   rw [hE] at hl hC ⊢
   have HH := Aside0.mk (show Below T.heap.size T wr ∧ ∃ (A : Option Addr) (dt : Nat), (.slice ao (mr_tab lt).length co' : Value) = .slice A (mr_tab lt).length dt ∧ (mr_tab lt).length ≤ dt ∧ Kd.C (Kd.slice 3 (Kd.int .i64)) wr A (mr_tab lt).length (mr_tab lt) from ⟨hb, ao, co', rfl, hl, kv_C hb hC⟩)
   clear hl hC hE hb HR HQ
   skip
   go_wp2
   exact HH.out
noncomputable def mr_l2 : Code := ((Try.f3.body.bind (mr_lp 2)).getD .skip)
set_option maxHeartbeats 400000000 in
set_option maxRecDepth 1000000 in
theorem mr_seg2 {gb ch cc cp co ct : Nat} {lh lc lo : List Int} {lp : List S34} {lt : List (List Int)} {m1 m2 m3 m4 : Int} {Ah Ac Ap Ao At : Option Addr} {T : World} (c0 c1 c2 c3 c4 c6 c7 c8 c9 c10 c11 c12 c13 c14 c15 c16 c19 c20 c21 c22 c23 c24 c25 c26 c27 c28 c29 c30 c31 c32 c33 c34 c35 c36 c37 c38 c39 c40 c41 c42 c43 c44 c45 c46 c47 c48 c49 c50 c51 c52 c53 c54 c55 c56 c57 c58 c59 c60 c61 c62 c63 c64 c65 c66 c67 c68 c69 c70 c71 c72 c73 c74 c75 c76 c77 c78 c79 c80 c81 c82 c83 c84 c85 c86 c87 c88 c89 c90 c91 c92 c93 c94 c95 c96 c97 c98 c99 c100 c101 c102 c103 c104 c105 c106 c107 c108 c109 c110 c111 c112 c113 c114 c115 c116 c117 c118 c119 c120 c121 c122 c123 c124 c125 c126 c127 c128 c129 c130 c131 c132 c133 c134 c135 c136 c137 c138 c139 c140 c141 c142 c143 c144 c145 c146 c147 c148 c149 c150 c151 c152 c153 c154 c155 c156 c157 c158 c159 c160 c161 c162 c163 c164 c165 c166 c167 c168 c169 c170 c171 c172 c173 c174 c175 c176 c177 c178 c179 c180 c181 c182 c183 c184 c185 c186 c187 c188 c189 c190 c191 c192 c193 c194 c195 c196 c197 c198 c199 c200 c201 c202 c203 c204 c205 c206 c207 c208 c209 c210 c211 c212 c213 c214 c215 c216 c217 c218 c219 c220 c221 c222 c223 c224 c225 c226 c227 c228 c229 c230 c231 c232 c233 c234 c235 c236 c237 c238 c239 c240 c241 c242 c243 c244 c245 c246 c247 c248 c249 c250 c251 c252 c253 c254 c255 c256 c257 c258 c259 c260 c261 c262 c263 c264 c265 c266 c267 c268 c269 c270 c271 c272 c273 c274 c275 c276 c277 c278 c279 c280 c281 c282 c283 c284 c285 c286 c287 c288 c289 c290 c291 c292 c293 c294 c295 c296 c297 c298 c299 c300 c301 c302 c303 c304 c305 c306 c307 c308 c309 c310 c311 c312 c313 c314 c315 c316 c317 c318 c319 c320 c321 c322 c323 c324 c325 c326 c327 c328 c329 c330 c331 c332 c333 c334 c335 c336 c337 c338 c339 c340 c341 c342 c343 c344 c345 c346 c347 c348 c349 c350 c351 c352 c353 c354 c355 c356 c357 c358 c359 c360 : Value) (Q : Exit → Act → World → Prop) (HB : Aside0 (T.heap[gb]? = some (.cells #[.slice Ah lh.length ch, .slice Ac lc.length cc, .slice Ap lp.length cp, .int .i64 m1, .int .i64 m2, .int .i64 m3, .int .i64 m4, .slice Ao lo.length co, .slice At lt.length ct] 28 (0, 0)))) (HT : Aside0 (Kd.C k34 T Ap lp.length lp)) (HLT : Aside0 (lp.length ≤ cp)) (hx : ∀ (u17 u18 u88 u89 u90 u91 u92 u93 u94 u95 u96 u97 u98 u99 u100 u101 u102 u103 u104 u105 u106 u107 u108 u109 u110 u111 u112 u113 u114 u115 : Value) (w' : World), (Below T.heap.size T w' ∧ ∃ (A : Option Addr) (dt : Nat), u17 = .slice A (mr_prs lp).length dt ∧ (mr_prs lp).length ≤ dt ∧ Kd.C k34 w' A (mr_prs lp).length (mr_prs lp)) → Q (.exit 2) ⟨List.toArray (c0 :: c1 :: c2 :: c3 :: c4 :: .pointer (some ⟨gb, 0, none⟩) :: c6 :: c7 :: c8 :: c9 :: c10 :: c11 :: c12 :: c13 :: c14 :: c15 :: c16 :: u17 :: u18 :: c19 :: c20 :: c21 :: c22 :: c23 :: c24 :: c25 :: c26 :: c27 :: c28 :: c29 :: c30 :: c31 :: c32 :: c33 :: c34 :: c35 :: c36 :: c37 :: c38 :: c39 :: c40 :: c41 :: c42 :: c43 :: c44 :: c45 :: c46 :: c47 :: c48 :: c49 :: c50 :: c51 :: c52 :: c53 :: c54 :: c55 :: c56 :: c57 :: c58 :: c59 :: c60 :: c61 :: c62 :: c63 :: c64 :: c65 :: c66 :: c67 :: c68 :: c69 :: c70 :: c71 :: c72 :: c73 :: c74 :: c75 :: c76 :: c77 :: c78 :: c79 :: c80 :: c81 :: c82 :: c83 :: c84 :: c85 :: c86 :: c87 :: u88 :: u89 :: u90 :: u91 :: u92 :: u93 :: u94 :: u95 :: u96 :: u97 :: u98 :: u99 :: u100 :: u101 :: u102 :: u103 :: u104 :: u105 :: u106 :: u107 :: u108 :: u109 :: u110 :: u111 :: u112 :: u113 :: u114 :: u115 :: c116 :: c117 :: c118 :: c119 :: c120 :: c121 :: c122 :: c123 :: c124 :: c125 :: c126 :: c127 :: c128 :: c129 :: c130 :: c131 :: c132 :: c133 :: c134 :: c135 :: c136 :: c137 :: c138 :: c139 :: c140 :: c141 :: c142 :: c143 :: c144 :: c145 :: c146 :: c147 :: c148 :: c149 :: c150 :: c151 :: c152 :: c153 :: c154 :: c155 :: c156 :: c157 :: c158 :: c159 :: c160 :: c161 :: c162 :: c163 :: c164 :: c165 :: c166 :: c167 :: c168 :: c169 :: c170 :: c171 :: c172 :: c173 :: c174 :: c175 :: c176 :: c177 :: c178 :: c179 :: c180 :: c181 :: c182 :: c183 :: c184 :: c185 :: c186 :: c187 :: c188 :: c189 :: c190 :: c191 :: c192 :: c193 :: c194 :: c195 :: c196 :: c197 :: c198 :: c199 :: c200 :: c201 :: c202 :: c203 :: c204 :: c205 :: c206 :: c207 :: c208 :: c209 :: c210 :: c211 :: c212 :: c213 :: c214 :: c215 :: c216 :: c217 :: c218 :: c219 :: c220 :: c221 :: c222 :: c223 :: c224 :: c225 :: c226 :: c227 :: c228 :: c229 :: c230 :: c231 :: c232 :: c233 :: c234 :: c235 :: c236 :: c237 :: c238 :: c239 :: c240 :: c241 :: c242 :: c243 :: c244 :: c245 :: c246 :: c247 :: c248 :: c249 :: c250 :: c251 :: c252 :: c253 :: c254 :: c255 :: c256 :: c257 :: c258 :: c259 :: c260 :: c261 :: c262 :: c263 :: c264 :: c265 :: c266 :: c267 :: c268 :: c269 :: c270 :: c271 :: c272 :: c273 :: c274 :: c275 :: c276 :: c277 :: c278 :: c279 :: c280 :: c281 :: c282 :: c283 :: c284 :: c285 :: c286 :: c287 :: c288 :: c289 :: c290 :: c291 :: c292 :: c293 :: c294 :: c295 :: c296 :: c297 :: c298 :: c299 :: c300 :: c301 :: c302 :: c303 :: c304 :: c305 :: c306 :: c307 :: c308 :: c309 :: c310 :: c311 :: c312 :: c313 :: c314 :: c315 :: c316 :: c317 :: c318 :: c319 :: c320 :: c321 :: c322 :: c323 :: c324 :: c325 :: c326 :: c327 :: c328 :: c329 :: c330 :: c331 :: c332 :: c333 :: c334 :: c335 :: c336 :: c337 :: c338 :: c339 :: c340 :: c341 :: c342 :: c343 :: c344 :: c345 :: c346 :: c347 :: c348 :: c349 :: c350 :: c351 :: c352 :: c353 :: c354 :: c355 :: c356 :: c357 :: c358 :: c359 :: c360 :: []), []⟩ w') :
  Code.wp Try.prog mr_l2 Q ⟨List.toArray (c0 :: c1 :: c2 :: c3 :: c4 :: .pointer (some ⟨gb, 0, none⟩) :: c6 :: c7 :: c8 :: c9 :: c10 :: c11 :: c12 :: c13 :: c14 :: c15 :: c16 :: .slice none 0 0 :: .int .i64 0 :: c19 :: c20 :: c21 :: c22 :: c23 :: c24 :: c25 :: c26 :: c27 :: c28 :: c29 :: c30 :: c31 :: c32 :: c33 :: c34 :: c35 :: c36 :: c37 :: c38 :: c39 :: c40 :: c41 :: c42 :: c43 :: c44 :: c45 :: c46 :: c47 :: c48 :: c49 :: c50 :: c51 :: c52 :: c53 :: c54 :: c55 :: c56 :: c57 :: c58 :: c59 :: c60 :: c61 :: c62 :: c63 :: c64 :: c65 :: c66 :: c67 :: c68 :: c69 :: c70 :: c71 :: c72 :: c73 :: c74 :: c75 :: c76 :: c77 :: c78 :: c79 :: c80 :: c81 :: c82 :: c83 :: c84 :: c85 :: c86 :: c87 :: c88 :: c89 :: c90 :: c91 :: c92 :: c93 :: c94 :: c95 :: c96 :: c97 :: c98 :: c99 :: c100 :: c101 :: c102 :: c103 :: c104 :: c105 :: c106 :: c107 :: c108 :: c109 :: c110 :: c111 :: c112 :: c113 :: c114 :: c115 :: c116 :: c117 :: c118 :: c119 :: c120 :: c121 :: c122 :: c123 :: c124 :: c125 :: c126 :: c127 :: c128 :: c129 :: c130 :: c131 :: c132 :: c133 :: c134 :: c135 :: c136 :: c137 :: c138 :: c139 :: c140 :: c141 :: c142 :: c143 :: c144 :: c145 :: c146 :: c147 :: c148 :: c149 :: c150 :: c151 :: c152 :: c153 :: c154 :: c155 :: c156 :: c157 :: c158 :: c159 :: c160 :: c161 :: c162 :: c163 :: c164 :: c165 :: c166 :: c167 :: c168 :: c169 :: c170 :: c171 :: c172 :: c173 :: c174 :: c175 :: c176 :: c177 :: c178 :: c179 :: c180 :: c181 :: c182 :: c183 :: c184 :: c185 :: c186 :: c187 :: c188 :: c189 :: c190 :: c191 :: c192 :: c193 :: c194 :: c195 :: c196 :: c197 :: c198 :: c199 :: c200 :: c201 :: c202 :: c203 :: c204 :: c205 :: c206 :: c207 :: c208 :: c209 :: c210 :: c211 :: c212 :: c213 :: c214 :: c215 :: c216 :: c217 :: c218 :: c219 :: c220 :: c221 :: c222 :: c223 :: c224 :: c225 :: c226 :: c227 :: c228 :: c229 :: c230 :: c231 :: c232 :: c233 :: c234 :: c235 :: c236 :: c237 :: c238 :: c239 :: c240 :: c241 :: c242 :: c243 :: c244 :: c245 :: c246 :: c247 :: c248 :: c249 :: c250 :: c251 :: c252 :: c253 :: c254 :: c255 :: c256 :: c257 :: c258 :: c259 :: c260 :: c261 :: c262 :: c263 :: c264 :: c265 :: c266 :: c267 :: c268 :: c269 :: c270 :: c271 :: c272 :: c273 :: c274 :: c275 :: c276 :: c277 :: c278 :: c279 :: c280 :: c281 :: c282 :: c283 :: c284 :: c285 :: c286 :: c287 :: c288 :: c289 :: c290 :: c291 :: c292 :: c293 :: c294 :: c295 :: c296 :: c297 :: c298 :: c299 :: c300 :: c301 :: c302 :: c303 :: c304 :: c305 :: c306 :: c307 :: c308 :: c309 :: c310 :: c311 :: c312 :: c313 :: c314 :: c315 :: c316 :: c317 :: c318 :: c319 :: c320 :: c321 :: c322 :: c323 :: c324 :: c325 :: c326 :: c327 :: c328 :: c329 :: c330 :: c331 :: c332 :: c333 :: c334 :: c335 :: c336 :: c337 :: c338 :: c339 :: c340 :: c341 :: c342 :: c343 :: c344 :: c345 :: c346 :: c347 :: c348 :: c349 :: c350 :: c351 :: c352 :: c353 :: c354 :: c355 :: c356 :: c357 :: c358 :: c359 :: c360 :: []), []⟩ T := by
 conv => arg 2; whnf
 go_loopw [17, 18] (fun o p wr => ∃ (j : Nat), j ≤ 4 ∧ j ≤ lp.length ∧ p = .int .i64 j ∧ Aside0 (Below T.heap.size T wr) ∧ Aside0 (Kd.R (kp T) 34 wr T.heap.size (fun _ => True) o ((lp.take j).map (fun p : S34 => (⟨p.f0, p.f1.take 20⟩ : S34))))) (fun _ p _ => 4 - (intOf p).toNat)
 case atStart => exact ⟨0, by omega, by omega, rfl, ⟨Below.refl _ _⟩, ⟨by simpa using Kd.R_nil _ _ _ _ _⟩⟩
 case round =>
  obtain ⟨j, hj, hjl, rfl, HQ, HR⟩ := hrel
  obtain ⟨ao, co', rfl⟩ := Kd.R_slice HR.out
  have y2 : wr.cell? ⟨gb, 2, none⟩ = some (.slice Ap lp.length cp) := (blk_cell (blk_below HB.out HQ.out) 2).trans rfl
  by_cases h1 : j < lp.length
  ·by_cases h2 : j < 4
   ·have i1 : (j : Int) < (lp.length : Int) := by omega
    have i2 : (j : Int) < 4 := by omega
    have i3 : (0 : Int) ≤ (j : Int) := by omega
    obtain ⟨ad, Ar, cr, rfl, hx0, hx1, hl, hr⟩ := at_T34 HT.out (j : Int) i3 i1
    rw [Int.toNat_natCast] at hx0 hx1
    obtain ⟨pr, hpr⟩ : ∃ row, rd_T34 lp (j : Int) = row := ⟨_, rfl⟩
    have HE := Aside0.mk (show (lp.take j).map (fun p : S34 => (⟨p.f0, p.f1.take 20⟩ : S34)) ++ [(fun p : S34 => (⟨p.f0, p.f1.take 20⟩ : S34)) pr] = (lp.take (j + 1)).map (fun p : S34 => (⟨p.f0, p.f1.take 20⟩ : S34)) by
     rw [List.take_succ_eq_append_getElem h1, List.map_append, ← hpr]; simp [rd_T34, h1])
    rw [hpr] at hx0 hx1 hl hr
    have z0 := hx0; have z1 := hx1
    replace hx0 := pw_cell_below HQ.out hx0
    replace hx1 := pw_cell_below HQ.out hx1
    have HX := Aside0.mk hl; have HC := Aside0.mk hr; have HJ := Aside0.mk (And.intro h1 h2)
    obtain ⟨out, hout⟩ : ∃ o, (lp.take j).map (fun p : S34 => (⟨p.f0, p.f1.take 20⟩ : S34)) = o := ⟨_, rfl⟩
    have HLN := Aside0.mk (show out.length ≤ 4 by rw [← hout]; simp; omega)
    obtain ⟨r20, hr20⟩ : ∃ r, pr.f1.take 20 = r := ⟨_, rfl⟩
    have HL2 := Aside0.mk (show r20.length ≤ cr by rw [← hr20, List.length_take]; omega)
    have HC2 := Aside0.mk (show Kd.C (Kd.int .i64) T Ar r20.length r20 by rw [← hr20]; exact mr_take hr 20)
    have H20 := Aside0.mk hr20
    replace HE : Aside0 ((lp.take j).map (fun p : S34 => (⟨p.f0, p.f1.take 20⟩ : S34)) ++ [⟨pr.f0, r20⟩] = (lp.take (j + 1)).map (fun p : S34 => (⟨p.f0, p.f1.take 20⟩ : S34))) := ⟨by rw [← HE.out, ← hr20]⟩
    rw [hout] at HR HE ⊢
    clear hl hr hpr hout h1 h2 hr20
    go_wp2_with (fail)
    have z2 : T.cell? ⟨gb, 2, none⟩ = some (.slice (some ad) lp.length cp) := (blk_cell HB.out 2).trans rfl
    have Z0 := Aside0.mk z0; have Z1 := Aside0.mk z1; have Z2 := Aside0.mk z2; clear z0 z1 z2
    go_region_held3 (fun W => W.cell? ⟨gb, 2, none⟩ = some (.slice (some ad) lp.length cp) ∧ W.cell? (ad.add (j * 2)) = some (.int .i64 pr.f0) ∧ W.cell? ⟨(ad.add (j * 2)).block, (ad.add (j * 2)).off + 1, none⟩ = some (.slice Ar pr.f1.length cr) ∧ Aside0 (Below T.heap.size T W)) (first | exact mr_S3 (by (repeat (first | exact Below.refl _ _ | exact Aside0.out (by assumption) | refine below_alloc ?_ _ | refine below_drew ?_ | refine pw_below_drewN ?_ _))) Z2.out Z0.out Z1.out) (first | (go_at_call 11; refine (mr_few3 HX.out (by decide) (by decide) (show List.take (Int.toNat 20) pr.f1 = r20 from H20.out)).mono ?_; rintro e w1 ⟨rfl, nd, rfl⟩) | ((with_reducible refine mr_gate 115 rfl ?_); refine Kd.R_append_step (kp T) (w0 := T) T.heap.size (by rfl) (.tmp 99) (.tmp 114) 23 34 (.agg #[(.int .i64 0), (.slice none 0 0)]) 32 rfl Try.underlying23 info34 rfl (show 0 < 2 by decide) (by decide) (.slice ao out.length co') out ⟨pr.f0, r20⟩ [.int .i64 pr.f0, .slice Ar r20.length cr] (fun _ => True) (fun _ => False) rfl rfl ⟨Ar, cr, rfl, HL2.out, HC2.out⟩ (fun _ h => h.elim) (fun _ _ => trivial) (by (with_reducible repeat (first | apply Kd.R_drew | apply Kd.R_drewN)); exact HR.out) (by (repeat (first | exact Below.refl _ _ | exact Aside0.out (by assumption) | refine below_alloc ?_ _ | refine below_drew ?_ | refine pw_below_drewN ?_ _))) (by have := HQ.out.size; exact this) (by have := HLN.out; omega) ?_; intro vo wo hro hbo _ _; have HR2 := Aside0.mk hro; have HQ2 := Aside0.mk hbo; clear hro hbo))
    rw [HE.out] at HR2
    go_wp2
    go_roundw
    case rel => exact ⟨j + 1, by have := HJ.out; omega, by have := HJ.out; omega, by go_num, HQ2, HR2⟩
    case measure => simp [intOf]; have := HJ.out; omega
   ·have i1 : (j : Int) < (lp.length : Int) := by omega
    obtain rfl : j = 4 := by omega
    obtain ⟨-, hl, hC⟩ := Kd.R_reads' HR.out
    have hE : (lp.take 4).map (fun p : S34 => (⟨p.f0, p.f1.take 20⟩ : S34)) = mr_prs lp := by unfold mr_prs; rfl
    have hb := HQ.out
    rw [hE] at hl hC ⊢
    have HH := Aside0.mk (show Below T.heap.size T wr ∧ ∃ (A : Option Addr) (dt : Nat), (.slice ao (mr_prs lp).length co' : Value) = .slice A (mr_prs lp).length dt ∧ (mr_prs lp).length ≤ dt ∧ Kd.C k34 wr A (mr_prs lp).length (mr_prs lp) from ⟨hb, ao, co', rfl, hl, kp_C hb hC⟩)
    clear hl hC hE hb HR HQ
    have i4 : (4 : Int) < (lp.length : Int) := by omega
    go_wp2
    exact HH.out
  ·have i1 : decide ((j : Int) < (lp.length : Int)) = false := decide_eq_false (by omega)
   obtain ⟨-, hl, hC⟩ := Kd.R_reads' HR.out
   have hE : (lp.take j).map (fun p : S34 => (⟨p.f0, p.f1.take 20⟩ : S34)) = mr_prs lp := by unfold mr_prs; rw [show j = lp.length from by omega, List.take_of_length_le (Nat.le_refl _), List.take_of_length_le (by omega)]
   have hb := HQ.out
   rw [hE] at hl hC ⊢
   have HH := Aside0.mk (show Below T.heap.size T wr ∧ ∃ (A : Option Addr) (dt : Nat), (.slice ao (mr_prs lp).length co' : Value) = .slice A (mr_prs lp).length dt ∧ (mr_prs lp).length ≤ dt ∧ Kd.C k34 wr A (mr_prs lp).length (mr_prs lp) from ⟨hb, ao, co', rfl, hl, kp_C hb hC⟩)
   clear hl hC hE hb HR HQ
   skip
   go_wp2
   exact HH.out

end Go.Proofs.Ytgaepndbfpfniaa.PFR
