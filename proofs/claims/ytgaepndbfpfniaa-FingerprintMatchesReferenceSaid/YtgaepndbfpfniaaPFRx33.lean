-- PRINTED by print.py (a twelfth state) out of the translation. Not trusted: Lean checks it.
import Derived.Test.YtgaepndbfpfniaaPFRx0
import Derived.Test.YtgaepndbfpfniaaPFRx7
import Derived.Test.YtgaepndbfpfniaaPFRx9
import Derived.Test.YtgaepndbfpfniaaPFRx13
import Derived.Test.YtgaepndbfpfniaaPFRx16
import Derived.Test.YtgaepndbfpfniaaPFRx17
import Derived.Test.YtgaepndbfpfniaaPFRx21
import Derived.Test.YtgaepndbfpfniaaPFRx25
import Derived.Test.YtgaepndbfpfniaaPFRx26
import Derived.Test.YtgaepndbfpfniaaPFRx27
import Derived.Test.YtgaepndbfpfniaaPFRx29
import Derived.Test.YtgaepndbfpfniaaPFRx31
import Derived.Test.YtgaepndbfpfniaaPFRx32
import Derived.RangeFuncNested
import Derived.RangeFuncBound
import Derived.RangeFuncCalls
import Derived.RangeFuncLeaves
import Derived.RangeFuncBox
import Derived.Shelf.Abstract
import Derived.Shelf.RegionOpen
import Derived.OwnWalkIn
import Derived.TacticsInMore
import Derived.LoopNIn
import Derived.LoopIn
import Derived.OneCell
import Derived.BigQuiet
import Derived.Deep.RegionWith
import Derived.Deep.RegionHeld3
import Derived.Deep.RegionLaw
import Derived.IntWalk
import Derived.Lib.SliceRun
import Derived.Deep.RegionLawGrows
namespace Go.Proofs.Ytgaepndbfpfniaa.PFR
open Go.RowKit Go.Proofs.YtgaepndbfpfniaaW.PrintWords Go.Proofs.YtgaepndbfpfniaaW.PrintLast Go.Proofs.YtgaepndbfpfniaaW.PrintMore
attribute [local go_sem] max2_int min2_int max_two min_two max_three min_three max_four min_four   -- for this text's walks alone
set_option linter.unusedVariables false
set_option linter.unusedSimpArgs false

attribute [local go_sem] Oper.semAt_some
open Go.Shelf
-- given by hand: mr2
noncomputable def mr_l6 : Code := ((Try.f3.body.bind (mr_lp 6)).getD .skip)
set_option maxHeartbeats 400000000 in
set_option maxRecDepth 1000000 in
theorem mr_seg6 {k ga gc gm gs ch ctb cm : Nat} {h mo : List Int} {cs : Nat → List Int} {als : Nat → List S34} {tb : List (List Int)} {m1 m2 m3 m4 p0 p1 p2 : Int} {Ah Am Atb : Option Addr} {T : World} (c0 c1 c2 c3 c4 c5 c6 c7 c8 c10 c11 c12 c16 c17 c18 c20 c23 c24 c25 c26 c27 c28 c29 c30 c31 c32 c33 c34 c35 c36 c37 c38 c39 c40 c41 c42 c43 c44 c45 c46 c47 c48 c49 c50 c51 c52 c53 c54 c55 c56 c57 c58 c59 c60 c61 c62 c63 c64 c65 c66 c67 c68 c69 c70 c71 c72 c73 c74 c75 c76 c77 c78 c79 c80 c81 c82 c83 c84 c85 c86 c87 c88 c89 c90 c91 c92 c93 c94 c95 c96 c97 c98 c99 c100 c101 c102 c103 c104 c105 c106 c107 c108 c109 c110 c111 c112 c113 c114 c115 c116 c117 c118 c119 c120 c121 c122 c123 c124 c125 c126 c127 c128 c129 c130 c131 c132 c133 c134 c135 c136 c137 c138 c139 c140 c141 c142 c143 c144 c145 c146 c147 c148 c149 c150 c151 c152 c153 c154 c155 c156 c157 c158 c159 c160 c161 c162 c163 c164 c165 c166 c167 c168 c169 c170 c171 c172 c173 c174 c175 c176 c177 c178 c179 c180 c181 c182 c183 c184 c185 c186 c187 c188 c189 c190 c191 c192 c193 c194 c195 c196 c197 c198 c199 c200 c201 c202 c203 c204 c205 c206 c207 c208 c209 c210 c211 c212 c213 c214 c215 c216 c217 c218 c219 c220 c221 c222 c223 c224 c225 c226 c227 c228 c229 c230 c231 c232 c233 c234 c235 c236 c237 c238 c239 c240 c241 c242 c243 c244 c245 c246 c247 c248 c249 c250 c251 c252 c253 c254 c255 c256 c257 c258 c259 c260 c261 c262 c263 c264 c265 c266 c267 c268 c269 c270 c271 c272 c273 c274 c275 c276 c277 c278 c279 c280 c281 c282 c283 c284 c285 c286 c287 c288 c289 c290 c291 c292 c293 c294 c295 c296 c297 c298 c299 c300 c301 c302 c303 c304 c305 c306 c307 c308 c309 c310 c311 c312 c313 c314 c315 c316 c317 c318 c319 c320 c321 c322 c323 c324 c325 c326 c327 c328 c329 c330 c331 c332 c333 c334 c335 c336 c337 c338 c339 c340 c341 c342 c343 c344 c345 c346 c347 c348 c349 c350 c351 c352 c353 c354 c355 c356 c357 c358 c359 c360 : Value) (Q : Exit → Act → World → Prop) (HH : Aside0 (Kd.C (Kd.int .i64) T Ah h.length h)) (HLH : Aside0 (h.length ≤ ch)) (HCS : Aside0 (∀ j : Nat, j < 2 → ∃ (A : Option Addr) (cc : Nat), T.cell? ⟨gc, j, none⟩ = some (.slice A (cs j).length cc) ∧ (cs j).length ≤ cc ∧ Kd.C (Kd.int .i64) T A (cs j).length (cs j))) (HAS : Aside0 (∀ j : Nat, j < 2 → ∃ (A : Option Addr) (cc : Nat), T.cell? ⟨gs, j, none⟩ = some (.slice A (als j).length cc) ∧ (als j).length ≤ cc ∧ Kd.C k34 T A (als j).length (als j))) (HTB : Aside0 (Kd.C (Kd.slice 3 (Kd.int .i64)) T Atb tb.length tb)) (HLT : Aside0 (tb.length ≤ ctb)) (HM : Aside0 (T.heap[gm]? = some (.cells #[.int .i64 m1, .int .i64 m2, .int .i64 m3, .int .i64 m4, .slice Am mo.length cm] 25 (0, 0)))) (HMO : Aside0 (Kd.C (Kd.int .i64) T Am mo.length mo)) (HLM : Aside0 (mo.length ≤ cm)) (HP : Aside0 (T.heap[ga]? = some (.cells #[.int .i64 p0, .int .i64 p1, .int .i64 p2] 29 (0, 0)))) (EV : Aside0 (∀ j : Nat, j < 2 → mr_hcok k h (cs j) (als j) tb m1 m2 m3 m4 mo p0 p1 p2)) (hx : ∀ (u10 u22 u23 u24 u25 u26 u27 u28 u29 u30 u31 u32 u33 u34 u35 u36 u37 u38 u39 u40 u41 u42 u43 u44 u45 u46 u146 u147 u148 u149 u150 u151 u152 u153 u154 u155 u156 u157 u158 u159 u160 u161 u162 u163 u164 u165 u166 u167 u168 u169 u170 u171 u172 u173 u174 u175 u176 u177 u178 u179 u180 u181 u182 u183 u184 u185 u186 u187 u188 u189 u190 u191 u192 u193 u194 u195 u196 u197 u198 u199 u200 u201 u202 u203 u204 u205 u206 u207 u208 u209 u210 u211 u212 u213 u214 u215 u216 u217 u218 u219 u220 u221 u222 u223 u224 u225 u226 u227 u228 u229 u230 u231 u232 u233 u234 u235 u236 u237 u238 u239 u240 u241 u242 u243 u244 u245 u246 u247 u248 u249 u250 u251 u252 u253 u254 u255 u256 u257 u258 u259 u260 u261 u262 u263 u264 u265 u266 u267 u268 u269 u270 u271 u272 u273 u274 u275 u276 u277 u278 u279 u280 u281 u282 u283 u284 u285 u286 u287 u288 u289 u290 u291 u292 u293 u294 u295 u296 u297 u298 u299 u300 u301 u302 u303 u304 u305 u306 u307 u308 u309 u310 u311 u312 u313 u314 u315 u316 u317 u318 u319 u320 u321 u322 u323 u324 u325 u326 u327 u328 u329 u330 u331 u332 u333 u334 u335 u336 u337 u338 u339 u340 u341 u342 u343 u344 u345 u346 u347 u348 u349 u350 u351 u352 u353 u354 u355 u356 u357 u358 u359 : Value) (w' : World), Below T.heap.size T w' → Q (.exit 6) ⟨List.toArray (c0 :: c1 :: c2 :: c3 :: c4 :: c5 :: c6 :: c7 :: c8 :: .pointer (some ⟨ga, 0, none⟩) :: u10 :: c11 :: c12 :: .slice (some ⟨gc, 0, none⟩) 2 2 :: .pointer (some ⟨gm, 0, none⟩) :: .slice Atb tb.length ctb :: c16 :: c17 :: c18 :: .slice (some ⟨gs, 0, none⟩) 2 2 :: c20 :: .slice Ah h.length ch :: u22 :: u23 :: u24 :: u25 :: u26 :: u27 :: u28 :: u29 :: u30 :: u31 :: u32 :: u33 :: u34 :: u35 :: u36 :: u37 :: u38 :: u39 :: u40 :: u41 :: u42 :: u43 :: u44 :: u45 :: u46 :: c47 :: c48 :: c49 :: c50 :: c51 :: c52 :: c53 :: c54 :: c55 :: c56 :: c57 :: c58 :: c59 :: c60 :: c61 :: c62 :: c63 :: c64 :: c65 :: c66 :: c67 :: c68 :: c69 :: c70 :: c71 :: c72 :: c73 :: c74 :: c75 :: c76 :: c77 :: c78 :: c79 :: c80 :: c81 :: c82 :: c83 :: c84 :: c85 :: c86 :: c87 :: c88 :: c89 :: c90 :: c91 :: c92 :: c93 :: c94 :: c95 :: c96 :: c97 :: c98 :: c99 :: c100 :: c101 :: c102 :: c103 :: c104 :: c105 :: c106 :: c107 :: c108 :: c109 :: c110 :: c111 :: c112 :: c113 :: c114 :: c115 :: c116 :: c117 :: c118 :: c119 :: c120 :: c121 :: c122 :: c123 :: c124 :: c125 :: c126 :: c127 :: c128 :: c129 :: c130 :: c131 :: c132 :: c133 :: c134 :: c135 :: c136 :: c137 :: c138 :: c139 :: c140 :: c141 :: c142 :: c143 :: c144 :: c145 :: u146 :: u147 :: u148 :: u149 :: u150 :: u151 :: u152 :: u153 :: u154 :: u155 :: u156 :: u157 :: u158 :: u159 :: u160 :: u161 :: u162 :: u163 :: u164 :: u165 :: u166 :: u167 :: u168 :: u169 :: u170 :: u171 :: u172 :: u173 :: u174 :: u175 :: u176 :: u177 :: u178 :: u179 :: u180 :: u181 :: u182 :: u183 :: u184 :: u185 :: u186 :: u187 :: u188 :: u189 :: u190 :: u191 :: u192 :: u193 :: u194 :: u195 :: u196 :: u197 :: u198 :: u199 :: u200 :: u201 :: u202 :: u203 :: u204 :: u205 :: u206 :: u207 :: u208 :: u209 :: u210 :: u211 :: u212 :: u213 :: u214 :: u215 :: u216 :: u217 :: u218 :: u219 :: u220 :: u221 :: u222 :: u223 :: u224 :: u225 :: u226 :: u227 :: u228 :: u229 :: u230 :: u231 :: u232 :: u233 :: u234 :: u235 :: u236 :: u237 :: u238 :: u239 :: u240 :: u241 :: u242 :: u243 :: u244 :: u245 :: u246 :: u247 :: u248 :: u249 :: u250 :: u251 :: u252 :: u253 :: u254 :: u255 :: u256 :: u257 :: u258 :: u259 :: u260 :: u261 :: u262 :: u263 :: u264 :: u265 :: u266 :: u267 :: u268 :: u269 :: u270 :: u271 :: u272 :: u273 :: u274 :: u275 :: u276 :: u277 :: u278 :: u279 :: u280 :: u281 :: u282 :: u283 :: u284 :: u285 :: u286 :: u287 :: u288 :: u289 :: u290 :: u291 :: u292 :: u293 :: u294 :: u295 :: u296 :: u297 :: u298 :: u299 :: u300 :: u301 :: u302 :: u303 :: u304 :: u305 :: u306 :: u307 :: u308 :: u309 :: u310 :: u311 :: u312 :: u313 :: u314 :: u315 :: u316 :: u317 :: u318 :: u319 :: u320 :: u321 :: u322 :: u323 :: u324 :: u325 :: u326 :: u327 :: u328 :: u329 :: u330 :: u331 :: u332 :: u333 :: u334 :: u335 :: u336 :: u337 :: u338 :: u339 :: u340 :: u341 :: u342 :: u343 :: u344 :: u345 :: u346 :: u347 :: u348 :: u349 :: u350 :: u351 :: u352 :: u353 :: u354 :: u355 :: u356 :: u357 :: u358 :: u359 :: c360 :: []), []⟩ w') :
  Code.wp Try.prog mr_l6 Q ⟨List.toArray (c0 :: c1 :: c2 :: c3 :: c4 :: c5 :: c6 :: c7 :: c8 :: .pointer (some ⟨ga, 0, none⟩) :: c10 :: c11 :: c12 :: .slice (some ⟨gc, 0, none⟩) 2 2 :: .pointer (some ⟨gm, 0, none⟩) :: .slice Atb tb.length ctb :: c16 :: c17 :: c18 :: .slice (some ⟨gs, 0, none⟩) 2 2 :: c20 :: .slice Ah h.length ch :: .int .i64 0 :: c23 :: c24 :: c25 :: c26 :: c27 :: c28 :: c29 :: c30 :: c31 :: c32 :: c33 :: c34 :: c35 :: c36 :: c37 :: c38 :: c39 :: c40 :: c41 :: c42 :: c43 :: c44 :: c45 :: c46 :: c47 :: c48 :: c49 :: c50 :: c51 :: c52 :: c53 :: c54 :: c55 :: c56 :: c57 :: c58 :: c59 :: c60 :: c61 :: c62 :: c63 :: c64 :: c65 :: c66 :: c67 :: c68 :: c69 :: c70 :: c71 :: c72 :: c73 :: c74 :: c75 :: c76 :: c77 :: c78 :: c79 :: c80 :: c81 :: c82 :: c83 :: c84 :: c85 :: c86 :: c87 :: c88 :: c89 :: c90 :: c91 :: c92 :: c93 :: c94 :: c95 :: c96 :: c97 :: c98 :: c99 :: c100 :: c101 :: c102 :: c103 :: c104 :: c105 :: c106 :: c107 :: c108 :: c109 :: c110 :: c111 :: c112 :: c113 :: c114 :: c115 :: c116 :: c117 :: c118 :: c119 :: c120 :: c121 :: c122 :: c123 :: c124 :: c125 :: c126 :: c127 :: c128 :: c129 :: c130 :: c131 :: c132 :: c133 :: c134 :: c135 :: c136 :: c137 :: c138 :: c139 :: c140 :: c141 :: c142 :: c143 :: c144 :: c145 :: c146 :: c147 :: c148 :: c149 :: c150 :: c151 :: c152 :: c153 :: c154 :: c155 :: c156 :: c157 :: c158 :: c159 :: c160 :: c161 :: c162 :: c163 :: c164 :: c165 :: c166 :: c167 :: c168 :: c169 :: c170 :: c171 :: c172 :: c173 :: c174 :: c175 :: c176 :: c177 :: c178 :: c179 :: c180 :: c181 :: c182 :: c183 :: c184 :: c185 :: c186 :: c187 :: c188 :: c189 :: c190 :: c191 :: c192 :: c193 :: c194 :: c195 :: c196 :: c197 :: c198 :: c199 :: c200 :: c201 :: c202 :: c203 :: c204 :: c205 :: c206 :: c207 :: c208 :: c209 :: c210 :: c211 :: c212 :: c213 :: c214 :: c215 :: c216 :: c217 :: c218 :: c219 :: c220 :: c221 :: c222 :: c223 :: c224 :: c225 :: c226 :: c227 :: c228 :: c229 :: c230 :: c231 :: c232 :: c233 :: c234 :: c235 :: c236 :: c237 :: c238 :: c239 :: c240 :: c241 :: c242 :: c243 :: c244 :: c245 :: c246 :: c247 :: c248 :: c249 :: c250 :: c251 :: c252 :: c253 :: c254 :: c255 :: c256 :: c257 :: c258 :: c259 :: c260 :: c261 :: c262 :: c263 :: c264 :: c265 :: c266 :: c267 :: c268 :: c269 :: c270 :: c271 :: c272 :: c273 :: c274 :: c275 :: c276 :: c277 :: c278 :: c279 :: c280 :: c281 :: c282 :: c283 :: c284 :: c285 :: c286 :: c287 :: c288 :: c289 :: c290 :: c291 :: c292 :: c293 :: c294 :: c295 :: c296 :: c297 :: c298 :: c299 :: c300 :: c301 :: c302 :: c303 :: c304 :: c305 :: c306 :: c307 :: c308 :: c309 :: c310 :: c311 :: c312 :: c313 :: c314 :: c315 :: c316 :: c317 :: c318 :: c319 :: c320 :: c321 :: c322 :: c323 :: c324 :: c325 :: c326 :: c327 :: c328 :: c329 :: c330 :: c331 :: c332 :: c333 :: c334 :: c335 :: c336 :: c337 :: c338 :: c339 :: c340 :: c341 :: c342 :: c343 :: c344 :: c345 :: c346 :: c347 :: c348 :: c349 :: c350 :: c351 :: c352 :: c353 :: c354 :: c355 :: c356 :: c357 :: c358 :: c359 :: c360 :: []), []⟩ T := by
 conv => arg 2; whnf
 go_loopw [22] (fun p wr => ∃ j : Nat, j ≤ 2 ∧ p = .int .i64 j ∧ Aside0 (Below T.heap.size T wr)) (fun p _ => 2 - (intOf p).toNat)
 case atStart => exact ⟨0, by omega, rfl, ⟨Below.refl _ _⟩⟩
 case round =>
  obtain ⟨j, hj, rfl, HQ⟩ := hrel
  by_cases hlt : j < 2
  ·obtain ⟨Ac, cc, hcell, hle, hC⟩ := HCS.out j hlt
   obtain ⟨Aa, ca, hac, hal, haC⟩ := HAS.out j hlt
   obtain ⟨o1, o2, o3, o4, oo, t, VA, VT, VM, VO, VB, VE⟩ := EV.out j hlt
   obtain ⟨c, ec⟩ : ∃ c, cs j = c := ⟨_, rfl⟩
   obtain ⟨al, ea⟩ : ∃ c, als j = c := ⟨_, rfl⟩
   rw [ec] at hcell hle hC VA VT VM VO VB
   rw [ea] at hac hal haC VE
   have HCX := Aside0.mk hcell; have HLC := Aside0.mk hle; have HC := Aside0.mk hC; have HAX := Aside0.mk hac; have HLA := Aside0.mk hal; have HA := Aside0.mk haC; replace VM := Aside0.mk VM; replace VO := Aside0.mk VO; replace VE := Aside0.mk VE; replace VT := Aside0.mk VT; replace VB := Aside0.mk VB
   clear hcell hle hC hac hal haC ec ea EV HCS HAS
   obtain ⟨d, e, g, j', p, hA, hB, hC, hD, hE, hF, hG⟩ := VA
   have E1 := Aside0.mk hA; have E2 := Aside0.mk hB; have E3 := Aside0.mk hC; have E4 := Aside0.mk hD; have E5 := Aside0.mk hE; have E6 := Aside0.mk hF; have E7 := Aside0.mk hG; clear hA hB hC hD hE hF hG
   have y0 := pw_cell_below HQ.out HCX.out
   have i1 : (j : Int) < 2 := by omega
   have i3 : (0 : Int) ≤ (j : Int) := by omega
   have i4 : ((j : Int)).toNat = j := rfl
   go_wp2_with (fail)
   refine (fingerprint_Distance.calls Ah ch h Ac cc c d e _ (Kd.C_below HH.out HQ.out) HLH.out (Kd.C_below HC.out HQ.out) HLC.out E1.out).mono ?_
   rintro e0 W0 ⟨rfl, hb⟩
   clear y0
   replace HQ := Aside0.mk (below_step HQ.out hb); clear hb
   go_wp2_with (fail)
   refine (aircheckref36_Distance.calls k Ah ch h Ac cc c d e _ (Kd.C_below HH.out HQ.out) HLH.out (Kd.C_below HC.out HQ.out) HLC.out E2.out).mono ?_
   rintro e1 W1 ⟨rfl, hb⟩
   replace HQ := Aside0.mk (below_step HQ.out hb); clear hb
   go_wp2_with (fail)
   refine (fingerprint_Cost.calls k Ah ch h Ac cc c g j' _ (Kd.C_below HH.out HQ.out) HLH.out (Kd.C_below HC.out HQ.out) HLC.out E3.out).mono ?_
   rintro e2 W2 ⟨rfl, hb⟩
   replace HQ := Aside0.mk (below_step HQ.out hb); clear hb
   go_wp2_with (fail)
   refine (aircheckref36_Cost.calls k Ah ch h Ac cc c g j' _ (Kd.C_below HH.out HQ.out) HLH.out (Kd.C_below HC.out HQ.out) HLC.out E4.out).mono ?_
   rintro e3 W3 ⟨rfl, hb⟩
   replace HQ := Aside0.mk (below_step HQ.out hb); clear hb
   go_wp2_with (fail)
   refine (fingerprint_Align.calls k Ah ch h Ac cc c o1 o2 o3 o4 oo p _ (Kd.C_below HH.out HQ.out) HLH.out (Kd.C_below HC.out HQ.out) HLC.out E5.out).mono ?_
   rintro e5 V1 ⟨v, rfl, hr, hb⟩
   obtain ⟨B1, b1, rfl, hc, hC⟩ := Kd.R_reads hr
   have H1 := Aside0.mk hC; have L1 := Aside0.mk hc; clear hr hc hC
   replace HQ := Aside0.mk (below_step HQ.out hb); clear hb
   go_wp2_with (fail)
   have hb := below_alloc (Below.refl V1.heap.size V1) (.cells #[.int .i64 o1, .int .i64 o2, .int .i64 o3, .int .i64 o4, .slice B1 oo.length b1] 25)
   obtain ⟨V2, hV⟩ : ∃ V, V1.alloc (.cells #[.int .i64 o1, .int .i64 o2, .int .i64 o3, .int .i64 o4, .slice B1 oo.length b1] 25) = V := ⟨_, rfl⟩
   rw [hV] at hb ⊢
   have BX1 := Aside0.mk (show V2.heap[V1.heap.size]? = some (.cells #[.int .i64 o1, .int .i64 o2, .int .i64 o3, .int .i64 o4, .slice B1 oo.length b1] 25 (0, 0)) by rw [← hV]; exact World.alloc_heap_new V1 _)
   clear hV
   replace HQ := Aside0.mk (below_step HQ.out hb); replace H1 := Aside0.mk (Kd.C_below H1.out hb); clear hb
   obtain ⟨g1, hg⟩ : ∃ g1, V1.heap.size = g1 := ⟨_, rfl⟩
   rw [hg] at BX1 ⊢
   clear hg
   refine (aircheckref36_Align.calls k Ah ch h Ac cc c o1 o2 o3 o4 oo p _ (Kd.C_below HH.out HQ.out) HLH.out (Kd.C_below HC.out HQ.out) HLC.out E6.out).mono ?_
   rintro e6 V3 ⟨v, rfl, hr, hb⟩
   obtain ⟨B2, b2, rfl, hc, hC⟩ := Kd.R_reads hr
   have H2 := Aside0.mk hC; have L2 := Aside0.mk hc; clear hr hc hC
   replace HQ := Aside0.mk (below_step HQ.out hb); replace H1 := Aside0.mk (Kd.C_below H1.out hb); replace BX1 := Aside0.mk (blk_below BX1.out hb); clear hb
   have hy := below_alloc (Below.refl V3.heap.size V3) (.cells #[.int .i64 o1, .int .i64 o2, .int .i64 o3, .int .i64 o4, .slice B2 oo.length b2] 25)
   obtain ⟨z0, z1, z2, z3, z4⟩ := mr_c5 (blk_below BX1.out hy)
   obtain ⟨t0, t1, t2, t3, t4⟩ := mr_c5 (World.alloc_heap_new V3 (.cells #[.int .i64 o1, .int .i64 o2, .int .i64 o3, .int .i64 o4, .slice B2 oo.length b2] 25))
   have n1 : (d != d) = false := bne_self_eq_false _
   have n2 : (e != e) = false := bne_self_eq_false _
   have n3 : (g != g) = false := bne_self_eq_false _
   have n4 : (j' != j') = false := bne_self_eq_false _
   have n5 : (p != p) = false := bne_self_eq_false _
   clear hy
   go_wp2_with (fail)
   have hb := below_alloc (Below.refl V3.heap.size V3) (.cells #[.int .i64 o1, .int .i64 o2, .int .i64 o3, .int .i64 o4, .slice B2 oo.length b2] 25)
   obtain ⟨V4, hV⟩ : ∃ V, V3.alloc (.cells #[.int .i64 o1, .int .i64 o2, .int .i64 o3, .int .i64 o4, .slice B2 oo.length b2] 25) = V := ⟨_, rfl⟩
   rw [hV] at hb ⊢
   have BX2 := Aside0.mk (show V4.heap[V3.heap.size]? = some (.cells #[.int .i64 o1, .int .i64 o2, .int .i64 o3, .int .i64 o4, .slice B2 oo.length b2] 25 (0, 0)) by rw [← hV]; exact World.alloc_heap_new V3 _)
   clear hV
   clear z0 z1 z2 z3 z4 t0 t1 t2 t3 t4 BX1
   replace HQ := Aside0.mk (below_step HQ.out hb); replace H1 := Aside0.mk (Kd.C_below H1.out hb); replace H2 := Aside0.mk (Kd.C_below H2.out hb); clear hb
   obtain ⟨g2, hg⟩ : ∃ g1, V3.heap.size = g1 := ⟨_, rfl⟩
   rw [hg] at BX2 ⊢
   clear hg
   refine (aircheckref36_Same.calls k o1 o2 o3 o4 B1 b1 oo o1 o2 o3 o4 B2 b2 oo true _ H1.out L1.out H2.out L2.out E7.out).mono ?_
   rintro e7 V5 ⟨rfl, hb⟩
   clear H1 L1
   replace HQ := Aside0.mk (below_step HQ.out hb); replace H2 := Aside0.mk (Kd.C_below H2.out hb); replace BX2 := Aside0.mk (blk_below BX2.out hb); clear hb
   clear n1 n2 n3 n4 n5 E1 E2 E3 E4 E5 E6 E7
   obtain ⟨e', hA, hB, hC, hP⟩ := VT.out
   have E1 := Aside0.mk hA; have E2 := Aside0.mk hB; have E3 := Aside0.mk hC; have EP := Aside0.mk hP; clear hA hB hC hP VT
   go_wp2_with (fail)
   refine (fingerprint_Table.calls Ah ch h Ac cc c t e' _ (Kd.C_below HH.out HQ.out) HLH.out (Kd.C_below HC.out HQ.out) HLC.out E1.out).mono ?_
   rintro e8 U ⟨v, rfl, hs, hb⟩
   obtain ⟨A1, d1, rfl⟩ := Kd.S_slice hs
   obtain ⟨-, hl, hC⟩ := Kd.S_reads' hs
   have HT1 := Aside0.mk hC; have HL1 := Aside0.mk hl; clear hs hl hC
   replace HQ := Aside0.mk (below_step HQ.out hb); replace H2 := Aside0.mk (Kd.C_below H2.out hb); replace BX2 := Aside0.mk (blk_below BX2.out hb); clear hb
   go_wp2_with (fail)
   refine (aircheckref36_Table.calls k Ah ch h Ac cc c t e' _ (Kd.C_below HH.out HQ.out) HLH.out (Kd.C_below HC.out HQ.out) HLC.out E2.out).mono ?_
   rintro e9 X0 ⟨v, rfl, hs, hb⟩
   obtain ⟨A2, d2, rfl⟩ := Kd.S_slice hs
   obtain ⟨-, hl, hC⟩ := Kd.S_reads' hs
   have HTU := HQ; have HU := Aside0.mk hb; have HS := Aside0.mk hs; have HT2 := Aside0.mk hC; have HL2 := Aside0.mk hl; clear hs hl hC
   replace HQ := Aside0.mk (below_step HQ.out hb); replace H2 := Aside0.mk (Kd.C_below H2.out hb); replace BX2 := Aside0.mk (blk_below BX2.out hb); replace HT1 := Aside0.mk (Kd.C_below HT1.out hb); clear hb
   go_upto_region 39 with (fail)
   refine mr_reg39 _ _ _ _ _ _ _ _ _ _ _ _ _ _ _ _ _ _ _ _ _ _ _ _ _ _ _ _ _ _ _ _ _ _ _ _ _ _ _ _ _ _ _ _ _ _ _ _ _ _ _ _ _ _ _ _ _ _ _ _ _ _ _ _ _ _ _ _ _ _ _ _ _ _ _ _ _ _ _ _ _ _ _ _ _ _ _ _ _ _ _ _ _ _ _ _ _ _ _ _ _ _ _ _ _ _ _ _ _ _ _ _ _ _ _ _ _ _ _ _ _ _ _ _ _ _ _ _ _ _ _ _ _ _ _ _ _ _ _ _ _ _ _ _ _ _ _ _ _ _ _ _ _ _ _ _ _ _ _ _ _ _ _ _ _ _ _ _ _ _ _ _ _ _ _ _ _ _ _ _ _ _ _ _ _ _ _ _ _ _ _ _ _ _ _ _ _ _ _ _ _ _ _ _ _ _ _ _ _ _ _ _ _ _ _ _ _ _ _ _ _ _ _ _ _ _ _ _ _ _ _ _ _ _ _ _ _ _ _ _ _ _ _ _ _ _ _ _ _ _ _ _ _ _ _ _ _ _ _ _ _ _ _ _ _ _ _ _ _ _ _ _ _ _ _ _ _ _ _ _ _ _ _ _ _ _ _ _ _ _ _ _ _ _ _ _ _ _ _ _ _ _ _ _ _ _ _ _ _ _ _ _ _ _ _ _ _ _ _ _ _ _ _ _ _ _ _ _ _ _ _ _ _ _ _ _ _ _ _ _ _ _ _ _ _ _ _ _ _ _ _ _ _ _ ⟨Kd.C_below HH.out HQ.out⟩ HLH ⟨Kd.C_below HC.out HQ.out⟩ HLC ⟨blk_below HM.out HQ.out⟩ ⟨Kd.C_below HMO.out HQ.out⟩ HLM BX2 H2 L2 HT1 HL1 HT2 HL2 E3 VM VO ?_
   intro u231 u232 u233 u234 u235 u236 u237 u238 u239 u240 u241 u242 u243 u244 u245 u246 u247 u248 u249 u250 u251 u252 u253 u254 u255 u256 u257 u258 u259 u260 X1 hb
   clear BX2 H2 L2 HT1 HL1 HT2 E3 VM VO E1 E2
   replace HQ := Aside0.mk (below_step HQ.out hb); replace HS := Aside0.mk (Kd.S_below HS.out hb); replace HU := Aside0.mk (below_step HU.out hb); clear hb
   obtain ⟨u, b, hA, hB⟩ := VB.out
   have E1 := Aside0.mk hA; have E2 := Aside0.mk hB; clear hA hB VB
   go_wp2_with (fail)
   refine (fingerprint_Bound.calls k Ah ch h Ac cc c Atb ctb tb u b _ (Kd.C_below HH.out HQ.out) HLH.out (Kd.C_below HC.out HQ.out) HLC.out (Kd.C_below HTB.out HQ.out) HLT.out E1.out).mono ?_
   rintro f1 X2 ⟨rfl, hb⟩
   replace HQ := Aside0.mk (below_step HQ.out hb); replace HS := Aside0.mk (Kd.S_below HS.out hb); replace HU := Aside0.mk (below_step HU.out hb); clear hb
   go_wp2_with (fail)
   refine (aircheckref36_Bound.calls k Ah ch h Ac cc c Atb ctb tb u b _ (Kd.C_below HH.out HQ.out) HLH.out (Kd.C_below HC.out HQ.out) HLC.out (Kd.C_below HTB.out HQ.out) HLT.out E2.out).mono ?_
   rintro f2 X3 ⟨rfl, hb⟩
   replace HQ := Aside0.mk (below_step HQ.out hb); replace HS := Aside0.mk (Kd.S_below HS.out hb); replace HU := Aside0.mk (below_step HU.out hb); clear hb
   have n1 : (u != u) = false := bne_self_eq_false _
   have n2 : (b != b) = false := bne_self_eq_false _
   go_upto_if 286 with (fail)
   go_cut [38, 39, 40, 41, 42] from 284 to 325 (fun v38 v39 v40 v41 v42 wc => Aside0 (Below T.heap.size T wc))
   case first =>
    clear n1 n2 E1 E2
    by_cases ht : 0 < t.length
    ·have dt : decide (0 < (t.length : Int)) = true := decide_eq_true (by omega)
     obtain ⟨i, jj, hA, ⟨hi1, hi2⟩, hB, ⟨hj1, hj2⟩, hD⟩ := EP.out ht
     obtain ⟨u', b', hD1, hD2⟩ := hD
     obtain ⟨row, hrow⟩ : ∃ row, row = t.getD i.toNat [] := ⟨_, rfl⟩
     rw [← hrow] at hB hj2
     have E1 := Aside0.mk hA; have E2 := Aside0.mk hB; have E3 := Aside0.mk hD1; have E4 := Aside0.mk hD2; have HROW := Aside0.mk hrow
     clear hA hB hD1 hD2 hrow EP
     obtain ⟨gt, cap, ev, _, _, _⟩ := Kd.R_form (Kd.S_R HS.out) (by omega)
     injection ev with ev1 ev2 ev3
     subst ev1 ev3
     have x0 : X3.cell? ⟨ga, 0, none⟩ = some (.int .i64 p0) := (blk_cell (blk_below HP.out HQ.out) 0).trans rfl
     go_wp2_with (fail)
     refine (airchecklaw36_pick.calls p0 _ i _ E1.out).mono ?_
     rintro f3 X4 ⟨rfl, hd⟩
     have hb := hd.below
     clear hd x0
     replace HQ := Aside0.mk (below_step HQ.out hb); replace HS := Aside0.mk (Kd.S_below HS.out hb); replace HU := Aside0.mk (below_step HU.out hb); clear hb
     obtain ⟨oki, ce, hcl, hM, hcc, hoki, hback⟩ := Kd.S_borrow HS.out ([] : List Int) i hi1 hi2
     rw [← HROW.out] at hM
     obtain ⟨vr, rfl, hR⟩ := hM
     have hvr0 := hcc 0 _ rfl
     rw [add_at, show 0 + (i.toNat * (Kd.slice 3 (Kd.int .i64)).sz + 0) = i.toNat from by show 0 + (i.toNat * 1 + 0) = _; omega] at hvr0
     obtain ⟨gr, cr, eqv, _, _, _⟩ := Kd.R_form hR (by omega)
     subst eqv
     have HVR := Aside0.mk hvr0
     clear hcc hoki hback hR hcl
     go_upto_region 47 with (fail)
     refine mr_reg47 _ _ _ _ _ _ _ _ _ _ _ _ _ _ _ _ _ _ _ _ _ _ _ _ _ _ _ _ _ _ _ _ _ _ _ _ _ _ _ _ _ _ _ _ _ _ _ _ _ _ _ _ _ _ _ _ _ _ _ _ _ _ _ _ _ _ _ _ _ _ _ _ _ _ _ _ _ _ _ _ _ _ _ _ _ _ _ _ _ _ _ _ _ _ _ _ _ _ _ _ _ _ _ _ _ _ _ _ _ _ _ _ _ _ _ _ _ _ _ _ _ _ _ _ _ _ _ _ _ _ _ _ _ _ _ _ _ _ _ _ _ _ _ _ _ _ _ _ _ _ _ _ _ _ _ _ _ _ _ _ _ _ _ _ _ _ _ _ _ _ _ _ _ _ _ _ _ _ _ _ _ _ _ _ _ _ _ _ _ _ _ _ _ _ _ _ _ _ _ _ _ _ _ _ _ _ _ _ _ _ _ _ _ _ _ _ _ _ _ _ _ _ _ _ _ _ _ _ _ _ _ _ _ _ _ _ _ _ _ _ _ _ _ _ _ _ _ _ _ _ _ _ _ _ _ _ _ _ _ _ _ _ _ _ _ _ _ _ _ _ _ _ _ _ _ _ _ _ _ _ _ _ _ _ _ _ _ _ _ _ _ _ _ _ _ _ _ _ _ _ _ _ _ _ _ _ _ _ _ _ _ _ _ _ _ _ _ _ _ _ _ _ _ _ _ _ _ _ _ _ _ _ _ _ _ _ _ _ _ _ _ _ _ _ _ _ _ _ _ _ _ _ _ _ _ _ _ _ _ _ E2 hj1 hj2 HU ⟨blk_below HP.out HTU.out⟩ HROW hi1 hi2 HS HVR ?_
     rintro u295 u296 u297 u298 u299 u300 u301 u302 u303 X5 ⟨hs, hb⟩
     replace HU := Aside0.mk hb; replace HQ := Aside0.mk (below_step HTU.out hb)
     clear hb hvr0 HS
     have hlen : t.length = (mr_put t i jj p2).length := by unfold mr_put; rw [List.length_set]
     obtain ⟨t', ht'⟩ : ∃ t', mr_put t i jj p2 = t' := ⟨_, rfl⟩
     rw [ht'] at hlen hs E3 E4
     rw [hlen] at hs ⊢
     have HS := Aside0.mk hs
     have HLEN := Aside0.mk hlen
     clear hs ht' hlen HROW HVR hj1 hj2 hi1 hi2 E1 E2
     go_wp2_with (fail)
     refine (fingerprint_Bound.calls k Ah ch h Ac cc c (some ⟨gt, 0, none⟩) d2 t' u' b' _ (Kd.C_below HH.out HQ.out) HLH.out (Kd.C_below HC.out HQ.out) HLC.out (Kd.S_reads' HS.out).2.2 (Kd.S_reads' HS.out).2.1 E3.out).mono ?_
     rintro f4 X6 ⟨rfl, hb⟩
     replace HQ := Aside0.mk (below_step HQ.out hb); replace HS := Aside0.mk (Kd.S_below HS.out hb); clear hb
     go_wp2_with (fail)
     refine (aircheckref36_Bound.calls k Ah ch h Ac cc c (some ⟨gt, 0, none⟩) d2 t' u' b' _ (Kd.C_below HH.out HQ.out) HLH.out (Kd.C_below HC.out HQ.out) HLC.out (Kd.S_reads' HS.out).2.2 (Kd.S_reads' HS.out).2.1 E4.out).mono ?_
     rintro f5 X7 ⟨rfl, hb⟩
     replace HQ := Aside0.mk (below_step HQ.out hb); clear hb
     have n1 : (u' != u') = false := bne_self_eq_false _
     have n2 : (b' != b') = false := bne_self_eq_false _
     go_wp2
     rw [← HLEN.out]
     go_meet
     case rel => exact HQ
    ·have dt : decide (0 < (t.length : Int)) = false := decide_eq_false (by omega)
     clear EP
     go_wp2
     go_meet
     case rel => exact HQ
   case rest =>
    clear HQ HS HU HTU n1 n2 E1 E2 EP
    have HQ := hcut
    clear hcut
    obtain ⟨w1, w2, w3, w4, wo, a, e, hA, hB, hS⟩ := VE.out
    have EA := Aside0.mk hA; have EB := Aside0.mk hB; have ES := Aside0.mk hS; clear hA hB hS VE
    have y0 := pw_cell_below HQ.out HAX.out
    go_wp2_with (fail)
    refine (fingerprint_Best.calls k Aa ca al Ah ch h w1 w2 w3 w4 wo a e _ (Kd.C_below HA.out HQ.out) HLA.out (Kd.C_below HH.out HQ.out) HLH.out EA.out).mono ?_
    rintro e1 X1 ⟨v, rfl, hr, hb⟩
    obtain ⟨B1, b1, rfl, hc, hC⟩ := Kd.R_reads hr
    have H1 := Aside0.mk hC; have L1 := Aside0.mk hc; clear hr hc hC y0
    replace HQ := Aside0.mk (below_step HQ.out hb); clear hb
    have y0 := pw_cell_below HQ.out HAX.out
    have y1 := pw_cell_below (below_alloc (Below.refl X1.heap.size X1) (.cells #[.int .i64 w1, .int .i64 w2, .int .i64 w3, .int .i64 w4, .slice B1 wo.length b1] 25)) y0
    go_wp2_with (fail)
    have hb := below_alloc (Below.refl X1.heap.size X1) (.cells #[.int .i64 w1, .int .i64 w2, .int .i64 w3, .int .i64 w4, .slice B1 wo.length b1] 25)
    obtain ⟨X2, hV⟩ : ∃ V, X1.alloc (.cells #[.int .i64 w1, .int .i64 w2, .int .i64 w3, .int .i64 w4, .slice B1 wo.length b1] 25) = V := ⟨_, rfl⟩
    rw [hV] at hb ⊢
    have BX := Aside0.mk (show X2.heap[X1.heap.size]? = some (.cells #[.int .i64 w1, .int .i64 w2, .int .i64 w3, .int .i64 w4, .slice B1 wo.length b1] 25 (0, 0)) by rw [← hV]; exact World.alloc_heap_new X1 _)
    clear hV
    clear y0 y1
    replace HQ := Aside0.mk (below_step HQ.out hb); replace H1 := Aside0.mk (Kd.C_below H1.out hb); clear hb
    obtain ⟨g1, hg⟩ : ∃ g1, X1.heap.size = g1 := ⟨_, rfl⟩
    rw [hg] at BX ⊢
    clear hg
    refine (aircheckref36_Best.calls k Aa ca al Ah ch h w1 w2 w3 w4 wo a e _ (Kd.C_below HA.out HQ.out) HLA.out (Kd.C_below HH.out HQ.out) HLH.out EB.out).mono ?_
    rintro e2 X3 ⟨v, rfl, hr, hb⟩
    obtain ⟨B2, b2, rfl, hc, hC⟩ := Kd.R_reads hr
    have H2 := Aside0.mk hC; have L2 := Aside0.mk hc; clear hr hc hC
    replace HQ := Aside0.mk (below_step HQ.out hb); replace H1 := Aside0.mk (Kd.C_below H1.out hb); replace BX := Aside0.mk (blk_below BX.out hb); clear hb
    have hy := below_alloc (Below.refl X3.heap.size X3) (.cells #[.int .i64 w1, .int .i64 w2, .int .i64 w3, .int .i64 w4, .slice B2 wo.length b2] 25)
    obtain ⟨z0, z1, z2, z3, z4⟩ := mr_c5 (blk_below BX.out hy)
    obtain ⟨t0, t1, t2, t3, t4⟩ := mr_c5 (World.alloc_heap_new X3 (.cells #[.int .i64 w1, .int .i64 w2, .int .i64 w3, .int .i64 w4, .slice B2 wo.length b2] 25))
    have n1 : (e != e) = false := bne_self_eq_false _
    have n2 : (a != a) = false := bne_self_eq_false _
    clear hy
    go_wp2_with (fail)
    refine (aircheckref36_Same.calls k w1 w2 w3 w4 B1 b1 wo w1 w2 w3 w4 B2 b2 wo true _ (Kd.C_alloc H1.out _) L1.out (Kd.C_alloc H2.out _) L2.out ES.out).mono ?_
    rintro e3 X4 ⟨rfl, hb⟩
    have HZ := Aside0.mk (below_step (below_alloc HQ.out _) hb); clear hb z0 z1 z2 z3 z4 t0 t1 t2 t3 t4
    go_wp2
    go_roundw
    case rel => exact ⟨j + 1, by omega, by go_num, HZ⟩
    case measure => simp [intOf]; omega
  ·obtain rfl : j = 2 := by omega
   clear hj hlt EV HCS HAS
   have hb := HQ.out
   clear HQ
   go_wp2
   exact hb

end Go.Proofs.Ytgaepndbfpfniaa.PFR
