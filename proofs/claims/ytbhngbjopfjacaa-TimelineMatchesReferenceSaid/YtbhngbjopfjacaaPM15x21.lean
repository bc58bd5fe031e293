-- PRINTED by print.py (a twelfth state) out of the translation. Not trusted: Lean checks it.
import Derived.Test.YtbhngbjopfjacaaPM15x0
import Derived.Test.YtbhngbjopfjacaaPM15x3
import Derived.Test.YtbhngbjopfjacaaPM15x6
import Derived.Test.YtbhngbjopfjacaaPM15x7
import Derived.Test.YtbhngbjopfjacaaPM15x8
import Derived.Test.YtbhngbjopfjacaaPM15x9
import Derived.Test.YtbhngbjopfjacaaPM15x10
import Derived.Test.YtbhngbjopfjacaaPM15x11
import Derived.Test.YtbhngbjopfjacaaPM15x12
import Derived.Test.YtbhngbjopfjacaaPM15x13
import Derived.Test.YtbhngbjopfjacaaPM15x15
import Derived.Test.YtbhngbjopfjacaaPM15x16
import Derived.Test.YtbhngbjopfjacaaPM15x17
import Derived.Test.YtbhngbjopfjacaaPM15x18
import Derived.Test.YtbhngbjopfjacaaPM15x19
import Derived.Test.YtbhngbjopfjacaaPM15x20
import Derived.RangeFuncNested
import Derived.RangeFuncBound
import Derived.RangeFuncCalls
import Derived.RangeFuncLeaves
import Derived.RangeFuncBox
import Derived.Shelf.Abstract
import Derived.Shelf.RegionOpen
import Derived.OwnWalkIn
import Derived.TacticsInMore
import Derived.LoopNIn
import Derived.LoopIn
import Derived.OneCell
import Derived.BigQuiet
import Derived.Deep.RegionWith
import Derived.Deep.RegionHeld3
import Derived.Deep.RegionLaw
import Derived.IntWalk
import Derived.Lib.SliceRun
import Derived.Deep.RegionLawGrows
namespace Go.Proofs.Ytbhngbjopfjacaa.PM15
open Go.RowKit Go.Proofs.YtbhngbjopfjacaaW.PrintWords Go.Proofs.YtbhngbjopfjacaaW.PrintLast Go.Proofs.YtbhngbjopfjacaaW.PrintMore
attribute [local go_sem] max2_int min2_int max_two min_two max_three min_three max_four min_four   -- for this text's walks alone
set_option linter.unusedVariables false
set_option linter.unusedSimpArgs false

attribute [local go_sem] Oper.semAt_some
open Go.Shelf
-- given by hand: bt3
def tm_two (K : Nat) (p q : Option (List S25 × Int)) : Prop := ∃ c e, p = some (c, e) ∧ q = some (c, e) ∧ aircheckref15_Same.f K c c = some true
def tm_sp (K : Nat) (p q : Option (List S45 × Int)) : Prop := ∃ c e, p = some (c, e) ∧ q = some (c, e) ∧ aircheckref07_SameSpells.f K c c = some true
def tm_at (K : Nat) (l b : List S25) (t : Int) : Prop := (∃ o e, timeline_At.f l t = some (o, e) ∧ aircheckref15_At.f K l t = some (o, e)) ∧ tm_two K (timeline_Join.f l b t) (aircheckref15_Join.f K l b t) ∧ tm_two K (timeline_Join.f b l t) (aircheckref15_Join.f K b l t)
def tm_put (K : Nat) (l : List S25) (s : S25) : Prop := tm_two K (timeline_Put.f l s.f0 s.f1 s.f2) (aircheckref15_Put.f K l s.f0 s.f1 s.f2) ∧ tm_two K (timeline_Within.f l s.f0 s.f1) (aircheckref15_Within.f K l s.f0 s.f1) ∧ tm_sp K (timeline_Owned.f K l s.f2) (aircheckref15_Owned.f K l s.f2)
def tm_list (K : Nat) (l b : List S25) (ts : List Int) (ss : List S25) (ks : List (List S25)) : Prop := (∃ v, timeline_Valid.f K l = some v ∧ aircheckref15_Valid.f K l = some v) ∧ (∃ e, timeline_End.f K l = some e ∧ aircheckref15_End.f K l = some e) ∧ (∀ t ∈ ts, tm_at K l b t) ∧ (∀ s ∈ ss, tm_put K l s) ∧ ∀ k ∈ ks, tm_sp K (timeline_Diff.f l k) (aircheckref15_Diff.f K l k)
def tm_ok (K : Nat) (n : Int) (x : List S29) (m : Int) (y : List S29) (raw : List S25) (how odd at_ : Int) (s : S25) (t : Int) : Prop :=
  airchecklaw15_sane.f K = some true ∧ ∃ a b fw p tt s2 ins bent o, aircheckref15_Made.f K n x = some a ∧ aircheckref15_Made.f K m y = some b ∧ airchecklaw15_few.f raw = some fw ∧ airchecklaw15_pick.f n 400 = some p ∧ (0 ≤ p ∧ p < 400) ∧ airchecklaw15_pick.f t (1 + p) = some tt ∧ aircheckref15_Spans.f K (1 + p) [⟨s.f0, s.f1, s.f2⟩] = some (s2 :: ins) ∧ aircheckref15_Bent.f a how odd at_ = some bent ∧
  tm_list K a b [t, tt] [s, s2] [a, b, fw] ∧ tm_list K bent b [t, tt] [s, s2] [a, b, fw] ∧ tm_list K fw b [t, tt] [s, s2] [a, b, fw] ∧ tm_two K (timeline_New.f K odd s.f2) (aircheckref15_New.f odd s.f2) ∧ airchecklaw15_pick.f s.f2 9 = some o ∧ tm_two K (timeline_Paint.f K (1 + p) o fw) (aircheckref15_Paint.f K (1 + p) o fw)
noncomputable section
def airchecklaw15_TimelineMatchesReference.f (k : Nat) (a0 : Int) (l1 : List S29) (a2 : Int) (l3 : List S29) (l4 : List S25) (a5 a6 a7 a8_0 a8_1 a8_2 a9 : Int) : Option Bool := tm_if (tm_ok k a0 l1 a2 l3 l4 a5 a6 a7 ⟨a8_0, a8_1, a8_2⟩ a9)
end
theorem tm_f {k : Nat} {a0 : Int} {l1 : List S29} {a2 : Int} {l3 : List S29} {l4 : List S25} {a5 a6 a7 a8_0 a8_1 a8_2 a9 : Int} {r : Bool} (h : airchecklaw15_TimelineMatchesReference.f k a0 l1 a2 l3 l4 a5 a6 a7 a8_0 a8_1 a8_2 a9 = some r) : tm_ok k a0 l1 a2 l3 l4 a5 a6 a7 ⟨a8_0, a8_1, a8_2⟩ a9 ∧ r = true := by
  unfold airchecklaw15_TimelineMatchesReference.f tm_if at h
  split at h
  next c => exact ⟨c, (Option.some.inj h).symm⟩
  next c => cases h
theorem tm_S {Wc W : World} {g : Nat} {x y z : Value} (hb : Below Wc.heap.size Wc W) (y0 : Wc.cell? ⟨g, 0, none⟩ = some x) (y1 : Wc.cell? ⟨g, 1, none⟩ = some y) (y2 : Wc.cell? ⟨g, 2, none⟩ = some z) : W.cell? ⟨g, 0, none⟩ = some x ∧ W.cell? ⟨g, 1, none⟩ = some y ∧ W.cell? ⟨g, 2, none⟩ = some z ∧ Aside0 (Below Wc.heap.size Wc W) := ⟨pw_cell_below hb y0, pw_cell_below hb y1, pw_cell_below hb y2, ⟨hb⟩⟩
theorem tm_S1 {Wc W : World} {p0 : Addr} {x : Value} (hb : Below Wc.heap.size Wc W) (y0 : Wc.cell? p0 = some x) : W.cell? p0 = some x ∧ Aside0 (Below Wc.heap.size Wc W) := ⟨pw_cell_below hb y0, ⟨hb⟩⟩
theorem tm_S6 {Wc W : World} {p0 p1 p2 q0 q1 q2 : Addr} {x y z x' y' z' : Value} (hb : Below Wc.heap.size Wc W) (y0 : Wc.cell? p0 = some x) (y1 : Wc.cell? p1 = some y) (y2 : Wc.cell? p2 = some z) (z0 : Wc.cell? q0 = some x') (z1 : Wc.cell? q1 = some y') (z2 : Wc.cell? q2 = some z') : W.cell? p0 = some x ∧ W.cell? p1 = some y ∧ W.cell? p2 = some z ∧ W.cell? q0 = some x' ∧ W.cell? q1 = some y' ∧ W.cell? q2 = some z' ∧ Aside0 (Below Wc.heap.size Wc W) := ⟨pw_cell_below hb y0, pw_cell_below hb y1, pw_cell_below hb y2, pw_cell_below hb z0, pw_cell_below hb z1, pw_cell_below hb z2, ⟨hb⟩⟩
theorem tm_C29 {W : World} {n : Nat} {x y z : Int} (h : W.heap[n]? = some (.cells #[.int .i64 x, .int .i64 y, .int .i64 z] 29 (0, 0))) : Kd.C k29 W (some ⟨n, 0, none⟩) 1 [⟨x, y, z⟩] := ⟨rfl, by simp, fun _ => ⟨⟨n, 0, none⟩, rfl, fun i q hq => by
  match i, hq with
  | 0, hq =>
    cases hq
    refine ⟨_, rfl, k29_mk W ⟨x, y, z⟩, fun r u hu => ?_⟩
    rw [add_plain, show 0 * (k29).sz + r = r from by omega, blk_cell h r]
    simpa using hu⟩⟩

def tm_lp (n : Nat) : Code → Option Code
  | .block i b => if i = n then some b else tm_lp n b
  | .seq a b => match tm_lp n a with
    | some c => some c
    | none => tm_lp n b
  | .loop b => tm_lp n b
  | .scope b => tm_lp n b
  | .cond _ a b => match tm_lp n a with
    | some c => some c
    | none => tm_lp n b
  | _ => none
noncomputable def tm_l2 : Code := ((Try.f3.body.bind (tm_lp 2)).getD .skip)
set_option maxHeartbeats 400000000 in
set_option maxRecDepth 1000000 in
theorem tm_seg2 {k : Nat} {b l : List S25} {A Ab : Option Addr} {c cb g1 : Nat} {T1 : World} (c0 c1 c2 c3 c4 c5 c6 c7 c8 c9 c10 c11 c12 c13 c14 c15 c16 c17 c18 c19 c20 c21 c22 c24 c25 c27 c28 c29 c30 c31 c32 c33 c34 c35 c36 c37 c38 c39 c40 c41 c42 c43 c44 c45 c46 c47 c48 c49 c50 c51 c52 c53 c54 c55 c56 c57 c58 c59 c60 c61 c62 c63 c64 c65 c66 c67 c68 c69 c70 c71 c72 c73 c74 c75 c76 c77 c78 c79 c80 c81 c82 c83 c84 c85 c86 c87 c88 c89 c90 c91 c92 c93 c94 c95 c96 c97 c98 c99 c100 c101 c102 c103 c104 c105 c106 c107 c108 c109 c110 c111 c112 c113 c114 c115 c116 c117 c118 c119 c123 c124 c125 c126 c127 c128 c129 c130 c131 c132 c133 c134 c135 c136 c137 c138 c139 c140 c141 c142 c143 c144 c145 c146 c147 c148 c149 c150 c151 c152 c153 c154 c155 c156 c157 c158 c159 c160 c161 c162 c163 c164 c165 c166 c167 c168 c169 c170 c171 c172 c173 c174 c175 c176 c177 c178 c179 c180 c181 c182 c183 c184 c185 c186 c187 c188 c189 c190 c191 c192 c193 c194 c195 c196 c197 c198 c199 c200 c201 c202 c203 c204 c205 c206 c207 c208 c209 c210 c211 c212 c213 c214 c215 c216 c217 c218 c219 c220 c221 c222 c223 c224 c225 c226 c227 c228 c229 c230 c231 c232 c233 c234 c235 c236 c237 c238 c239 c240 c241 c242 c243 c244 c245 c246 c247 c248 c249 c250 c251 c252 c253 c254 c255 c256 c257 c258 c259 c260 c261 c262 c263 c264 c265 c266 c267 c268 c269 c270 c271 c272 c273 c274 c275 c276 c277 c278 c279 c280 c281 c282 c283 c284 c285 c286 c287 c288 c289 c290 c291 c292 c293 c294 c295 c296 c297 c298 c299 c300 c301 c302 c303 c304 c305 c306 c307 c308 c309 c310 c311 c312 c313 c314 c315 c316 c317 c318 c319 c320 c321 c322 c323 c324 c325 c326 c327 c328 c329 c330 c331 c332 c333 c334 c335 c336 c337 c338 c339 c340 c341 c342 c343 c344 c345 c346 c347 c348 c349 c350 c351 c352 c353 c354 c355 c356 c357 c358 c359 c360 c361 c362 c363 c364 c365 c366 c367 c368 c369 c370 c371 c372 c373 c374 : Value) (Q : Exit → Act → World → Prop) (HLC : Aside0 (l.length ≤ c)) (HCB : Aside0 (b.length ≤ cb)) (CL : Aside0 (Kd.C k25 T1 A l.length l)) (CB : Aside0 (Kd.C k25 T1 Ab b.length b)) (HX : Aside0 (∀ i : Nat, i < 2 → ∃ x, T1.cell? ⟨g1, i, none⟩ = some (.int .i64 x) ∧ tm_at k l b x)) (hx : ∀ (u20 u28 u29 u30 u31 u32 u33 u34 u35 u36 u37 u38 u39 u40 u122 u123 u124 u125 u126 u127 u128 u129 u130 u131 u132 u133 u134 u135 u136 u137 u138 u139 u140 u141 u142 u143 u144 u145 u146 u147 u148 u149 u150 u151 u152 u153 u154 u155 u156 u157 u158 u159 u160 u161 u162 u163 u164 u165 u166 u167 u168 u169 u170 u171 u172 u173 u174 u175 u176 u177 u178 u179 u180 u181 u182 u183 u184 u185 u186 u187 u188 u189 u190 u191 u192 u193 u194 : Value) (w' : World), Below T1.heap.size T1 w' → Q (.exit 2) ⟨List.toArray (c0 :: c1 :: c2 :: c3 :: c4 :: c5 :: c6 :: c7 :: c8 :: c9 :: c10 :: c11 :: c12 :: c13 :: c14 :: c15 :: c16 :: c17 :: c18 :: c19 :: u20 :: c21 :: c22 :: .slice Ab b.length cb :: c24 :: c25 :: .slice A l.length c :: c27 :: u28 :: u29 :: u30 :: u31 :: u32 :: u33 :: u34 :: u35 :: u36 :: u37 :: u38 :: u39 :: u40 :: c41 :: c42 :: c43 :: c44 :: c45 :: c46 :: c47 :: c48 :: c49 :: c50 :: c51 :: c52 :: c53 :: c54 :: c55 :: c56 :: c57 :: c58 :: c59 :: c60 :: c61 :: c62 :: c63 :: c64 :: c65 :: c66 :: c67 :: c68 :: c69 :: c70 :: c71 :: c72 :: c73 :: c74 :: c75 :: c76 :: c77 :: c78 :: c79 :: c80 :: c81 :: c82 :: c83 :: c84 :: c85 :: c86 :: c87 :: c88 :: c89 :: c90 :: c91 :: c92 :: c93 :: c94 :: c95 :: c96 :: c97 :: c98 :: c99 :: c100 :: c101 :: c102 :: c103 :: c104 :: c105 :: c106 :: c107 :: c108 :: c109 :: c110 :: c111 :: c112 :: c113 :: c114 :: c115 :: c116 :: c117 :: c118 :: c119 :: .slice (some ⟨g1, 0, none⟩) 2 2 :: .int .i64 2 :: u122 :: u123 :: u124 :: u125 :: u126 :: u127 :: u128 :: u129 :: u130 :: u131 :: u132 :: u133 :: u134 :: u135 :: u136 :: u137 :: u138 :: u139 :: u140 :: u141 :: u142 :: u143 :: u144 :: u145 :: u146 :: u147 :: u148 :: u149 :: u150 :: u151 :: u152 :: u153 :: u154 :: u155 :: u156 :: u157 :: u158 :: u159 :: u160 :: u161 :: u162 :: u163 :: u164 :: u165 :: u166 :: u167 :: u168 :: u169 :: u170 :: u171 :: u172 :: u173 :: u174 :: u175 :: u176 :: u177 :: u178 :: u179 :: u180 :: u181 :: u182 :: u183 :: u184 :: u185 :: u186 :: u187 :: u188 :: u189 :: u190 :: u191 :: u192 :: u193 :: u194 :: c195 :: c196 :: c197 :: c198 :: c199 :: c200 :: c201 :: c202 :: c203 :: c204 :: c205 :: c206 :: c207 :: c208 :: c209 :: c210 :: c211 :: c212 :: c213 :: c214 :: c215 :: c216 :: c217 :: c218 :: c219 :: c220 :: c221 :: c222 :: c223 :: c224 :: c225 :: c226 :: c227 :: c228 :: c229 :: c230 :: c231 :: c232 :: c233 :: c234 :: c235 :: c236 :: c237 :: c238 :: c239 :: c240 :: c241 :: c242 :: c243 :: c244 :: c245 :: c246 :: c247 :: c248 :: c249 :: c250 :: c251 :: c252 :: c253 :: c254 :: c255 :: c256 :: c257 :: c258 :: c259 :: c260 :: c261 :: c262 :: c263 :: c264 :: c265 :: c266 :: c267 :: c268 :: c269 :: c270 :: c271 :: c272 :: c273 :: c274 :: c275 :: c276 :: c277 :: c278 :: c279 :: c280 :: c281 :: c282 :: c283 :: c284 :: c285 :: c286 :: c287 :: c288 :: c289 :: c290 :: c291 :: c292 :: c293 :: c294 :: c295 :: c296 :: c297 :: c298 :: c299 :: c300 :: c301 :: c302 :: c303 :: c304 :: c305 :: c306 :: c307 :: c308 :: c309 :: c310 :: c311 :: c312 :: c313 :: c314 :: c315 :: c316 :: c317 :: c318 :: c319 :: c320 :: c321 :: c322 :: c323 :: c324 :: c325 :: c326 :: c327 :: c328 :: c329 :: c330 :: c331 :: c332 :: c333 :: c334 :: c335 :: c336 :: c337 :: c338 :: c339 :: c340 :: c341 :: c342 :: c343 :: c344 :: c345 :: c346 :: c347 :: c348 :: c349 :: c350 :: c351 :: c352 :: c353 :: c354 :: c355 :: c356 :: c357 :: c358 :: c359 :: c360 :: c361 :: c362 :: c363 :: c364 :: c365 :: c366 :: c367 :: c368 :: c369 :: c370 :: c371 :: c372 :: c373 :: c374 :: []), []⟩ w') :
    Code.wp Try.prog tm_l2 Q ⟨List.toArray (c0 :: c1 :: c2 :: c3 :: c4 :: c5 :: c6 :: c7 :: c8 :: c9 :: c10 :: c11 :: c12 :: c13 :: c14 :: c15 :: c16 :: c17 :: c18 :: c19 :: c20 :: c21 :: c22 :: .slice Ab b.length cb :: c24 :: c25 :: .slice A l.length c :: c27 :: c28 :: c29 :: c30 :: c31 :: c32 :: c33 :: c34 :: c35 :: c36 :: c37 :: c38 :: c39 :: c40 :: c41 :: c42 :: c43 :: c44 :: c45 :: c46 :: c47 :: c48 :: c49 :: c50 :: c51 :: c52 :: c53 :: c54 :: c55 :: c56 :: c57 :: c58 :: c59 :: c60 :: c61 :: c62 :: c63 :: c64 :: c65 :: c66 :: c67 :: c68 :: c69 :: c70 :: c71 :: c72 :: c73 :: c74 :: c75 :: c76 :: c77 :: c78 :: c79 :: c80 :: c81 :: c82 :: c83 :: c84 :: c85 :: c86 :: c87 :: c88 :: c89 :: c90 :: c91 :: c92 :: c93 :: c94 :: c95 :: c96 :: c97 :: c98 :: c99 :: c100 :: c101 :: c102 :: c103 :: c104 :: c105 :: c106 :: c107 :: c108 :: c109 :: c110 :: c111 :: c112 :: c113 :: c114 :: c115 :: c116 :: c117 :: c118 :: c119 :: .slice (some ⟨g1, 0, none⟩) 2 2 :: .int .i64 2 :: .int .i64 0 :: c123 :: c124 :: c125 :: c126 :: c127 :: c128 :: c129 :: c130 :: c131 :: c132 :: c133 :: c134 :: c135 :: c136 :: c137 :: c138 :: c139 :: c140 :: c141 :: c142 :: c143 :: c144 :: c145 :: c146 :: c147 :: c148 :: c149 :: c150 :: c151 :: c152 :: c153 :: c154 :: c155 :: c156 :: c157 :: c158 :: c159 :: c160 :: c161 :: c162 :: c163 :: c164 :: c165 :: c166 :: c167 :: c168 :: c169 :: c170 :: c171 :: c172 :: c173 :: c174 :: c175 :: c176 :: c177 :: c178 :: c179 :: c180 :: c181 :: c182 :: c183 :: c184 :: c185 :: c186 :: c187 :: c188 :: c189 :: c190 :: c191 :: c192 :: c193 :: c194 :: c195 :: c196 :: c197 :: c198 :: c199 :: c200 :: c201 :: c202 :: c203 :: c204 :: c205 :: c206 :: c207 :: c208 :: c209 :: c210 :: c211 :: c212 :: c213 :: c214 :: c215 :: c216 :: c217 :: c218 :: c219 :: c220 :: c221 :: c222 :: c223 :: c224 :: c225 :: c226 :: c227 :: c228 :: c229 :: c230 :: c231 :: c232 :: c233 :: c234 :: c235 :: c236 :: c237 :: c238 :: c239 :: c240 :: c241 :: c242 :: c243 :: c244 :: c245 :: c246 :: c247 :: c248 :: c249 :: c250 :: c251 :: c252 :: c253 :: c254 :: c255 :: c256 :: c257 :: c258 :: c259 :: c260 :: c261 :: c262 :: c263 :: c264 :: c265 :: c266 :: c267 :: c268 :: c269 :: c270 :: c271 :: c272 :: c273 :: c274 :: c275 :: c276 :: c277 :: c278 :: c279 :: c280 :: c281 :: c282 :: c283 :: c284 :: c285 :: c286 :: c287 :: c288 :: c289 :: c290 :: c291 :: c292 :: c293 :: c294 :: c295 :: c296 :: c297 :: c298 :: c299 :: c300 :: c301 :: c302 :: c303 :: c304 :: c305 :: c306 :: c307 :: c308 :: c309 :: c310 :: c311 :: c312 :: c313 :: c314 :: c315 :: c316 :: c317 :: c318 :: c319 :: c320 :: c321 :: c322 :: c323 :: c324 :: c325 :: c326 :: c327 :: c328 :: c329 :: c330 :: c331 :: c332 :: c333 :: c334 :: c335 :: c336 :: c337 :: c338 :: c339 :: c340 :: c341 :: c342 :: c343 :: c344 :: c345 :: c346 :: c347 :: c348 :: c349 :: c350 :: c351 :: c352 :: c353 :: c354 :: c355 :: c356 :: c357 :: c358 :: c359 :: c360 :: c361 :: c362 :: c363 :: c364 :: c365 :: c366 :: c367 :: c368 :: c369 :: c370 :: c371 :: c372 :: c373 :: c374 :: []), []⟩ T1 := by
  conv => arg 2; whnf
  go_loopw [122] (fun p wr => ∃ i : Nat, i ≤ 2 ∧ p = .int .i64 i ∧ Aside0 (Below T1.heap.size T1 wr)) (fun p _ => 2 - (intOf p).toNat)
  case atStart => exact ⟨0, by omega, rfl, ⟨Below.refl _ _⟩⟩
  case round =>
    obtain ⟨i, hi, rfl, HQ⟩ := hrel
    by_cases hlt1 : i < 2
    · obtain ⟨x, hx1, ⟨o1, e1, hA, hB⟩, ⟨m1, e2, hC, hD, hE⟩, m2, e3, hF, hG, hH⟩ := HX.out i hlt1
      have hx' := pw_cell_below HQ.out hx1
      have EA1 := Aside0.mk hA; have EB1 := Aside0.mk hB; have EC1 := Aside0.mk hC; have ED1 := Aside0.mk hD; have EE1 := Aside0.mk hE; have EF1 := Aside0.mk hF; have EG1 := Aside0.mk hG; have EH1 := Aside0.mk hH
      clear hx1 hA hB hC hD hE hF hG hH
      have i1 : (i : Int) < 2 := by omega
      have i3 : (0 : Int) ≤ i := by omega
      have i4 : ((i : Int)).toNat = i := rfl
      go_wp2_with (fail)
      refine (timeline_At.calls A c l x o1 e1 _ (Kd.C_below CL.out HQ.out) HLC.out EA1.out).mono ?_
      rintro e W11 ⟨rfl, hb⟩
      clear hx'
      replace HQ := Aside0.mk (below_step HQ.out hb); clear hb
      go_wp2_with (fail)
      refine (aircheckref15_At.calls k A c l x o1 e1 _ (Kd.C_below CL.out HQ.out) HLC.out EB1.out).mono ?_
      rintro e W12 ⟨rfl, hd⟩
      have hb := hd.below; clear hd
      replace HQ := Aside0.mk (below_step HQ.out hb); clear hb
      have q1 : (o1 != o1) = false := bne_self_eq_false _
      have q2 : (e1 != e1) = false := bne_self_eq_false _
      go_wp2_with (fail)
      refine (timeline_Join.calls A c l Ab cb b x m1 e2 _ (Kd.C_below CL.out HQ.out) HLC.out (Kd.C_below CB.out HQ.out) HCB.out EC1.out).mono ?_
      rintro e W20 ⟨v, rfl, hr, hb⟩
      obtain ⟨D0, d0, rfl, hd, hD⟩ := Kd.R_reads hr
      replace HQ := Aside0.mk (below_step HQ.out hb); clear hb
      have HD0 := Aside0.mk hD; have HE0 := Aside0.mk hd; clear hr hd hD
      go_wp2_with (fail)
      refine (aircheckref15_Join.calls k A c l Ab cb b x m1 e2 _ (Kd.C_below CL.out HQ.out) HLC.out (Kd.C_below CB.out HQ.out) HCB.out ED1.out).mono ?_
      rintro e W21 ⟨v, rfl, hr, hb⟩
      obtain ⟨D1, d1, rfl, hd, hD⟩ := Kd.R_reads hr
      replace HQ := Aside0.mk (below_step HQ.out hb); replace HD0 := Aside0.mk (Kd.C_below HD0.out hb); clear hb
      have HD1 := Aside0.mk hD; have HE1 := Aside0.mk hd; clear hr hd hD
      go_wp2_with (fail)
      refine (timeline_Join.calls Ab cb b A c l x m2 e3 _ (Kd.C_below CB.out HQ.out) HCB.out (Kd.C_below CL.out HQ.out) HLC.out EF1.out).mono ?_
      rintro e W22 ⟨v, rfl, hr, hb⟩
      obtain ⟨D2, d2, rfl, hd, hD⟩ := Kd.R_reads hr
      replace HQ := Aside0.mk (below_step HQ.out hb); replace HD0 := Aside0.mk (Kd.C_below HD0.out hb); replace HD1 := Aside0.mk (Kd.C_below HD1.out hb); clear hb
      have HD2 := Aside0.mk hD; have HE2 := Aside0.mk hd; clear hr hd hD
      go_wp2_with (fail)
      refine (aircheckref15_Join.calls k Ab cb b A c l x m2 e3 _ (Kd.C_below CB.out HQ.out) HCB.out (Kd.C_below CL.out HQ.out) HLC.out EG1.out).mono ?_
      rintro e W23 ⟨v, rfl, hr, hb⟩
      obtain ⟨D3, d3, rfl, hd, hD⟩ := Kd.R_reads hr
      replace HQ := Aside0.mk (below_step HQ.out hb); replace HD0 := Aside0.mk (Kd.C_below HD0.out hb); replace HD1 := Aside0.mk (Kd.C_below HD1.out hb); replace HD2 := Aside0.mk (Kd.C_below HD2.out hb); clear hb
      have HD3 := Aside0.mk hD; have HE3 := Aside0.mk hd; clear hr hd hD
      have q3 : (e2 != e2) = false := bne_self_eq_false _
      have q4 : (e3 != e3) = false := bne_self_eq_false _
      go_wp2_with (fail)
      refine (aircheckref15_Same.calls k D0 d0 m1 D1 d1 m1 true _ HD0.out HE0.out HD1.out HE1.out EE1.out).mono ?_
      rintro e W25 ⟨rfl, hd⟩
      have hb := hd.below; clear hd
      replace HQ := Aside0.mk (below_step HQ.out hb); replace HD2 := Aside0.mk (Kd.C_below HD2.out hb); replace HD3 := Aside0.mk (Kd.C_below HD3.out hb); clear hb
      go_wp2_with (fail)
      refine (aircheckref15_Same.calls k D2 d2 m2 D3 d3 m2 true _ HD2.out HE2.out HD3.out HE3.out EH1.out).mono ?_
      rintro e W26 ⟨rfl, hd⟩
      have hb := hd.below; clear hd
      replace HQ := Aside0.mk (below_step HQ.out hb); clear hb
      go_wp2
      go_roundw
      case rel => exact ⟨i + 1, by omega, by go_num, HQ⟩
      case measure => simp [intOf]; omega
    · obtain rfl : i = 2 := by omega
      clear hi hlt1 HX
      have hb := HQ.out; clear HQ
      go_wp2
      exact hb
noncomputable def tm_l4 : Code := ((Try.f3.body.bind (tm_lp 4)).getD .skip)
set_option maxHeartbeats 400000000 in
set_option maxRecDepth 1000000 in
theorem tm_seg4 {k : Nat} {l : List S25} {A : Option Addr} {c g2 : Nat} {T2 : World} (c0 c1 c2 c3 c4 c5 c6 c7 c8 c9 c10 c11 c12 c13 c14 c15 c16 c17 c18 c19 c20 c21 c22 c23 c24 c25 c27 c28 c29 c30 c31 c32 c33 c34 c35 c36 c37 c38 c39 c40 c41 c42 c43 c44 c45 c46 c47 c48 c49 c50 c51 c52 c53 c54 c55 c56 c57 c58 c59 c60 c61 c62 c63 c64 c65 c66 c67 c68 c69 c70 c71 c72 c73 c74 c75 c76 c77 c78 c79 c80 c81 c82 c83 c84 c85 c86 c87 c88 c89 c90 c91 c92 c93 c94 c95 c96 c97 c98 c99 c100 c101 c102 c103 c104 c105 c106 c107 c108 c109 c110 c111 c112 c113 c114 c115 c116 c117 c118 c119 c120 c121 c122 c123 c124 c125 c126 c127 c128 c129 c130 c131 c132 c133 c134 c135 c136 c137 c138 c139 c140 c141 c142 c143 c144 c145 c146 c147 c148 c149 c150 c151 c152 c153 c154 c155 c156 c157 c158 c159 c160 c161 c162 c163 c164 c165 c166 c167 c168 c169 c170 c171 c172 c173 c174 c175 c176 c177 c178 c179 c180 c181 c182 c183 c184 c185 c186 c187 c188 c189 c190 c191 c192 c193 c194 c195 c196 c197 c198 c202 c203 c204 c205 c206 c207 c208 c209 c210 c211 c212 c213 c214 c215 c216 c217 c218 c219 c220 c221 c222 c223 c224 c225 c226 c227 c228 c229 c230 c231 c232 c233 c234 c235 c236 c237 c238 c239 c240 c241 c242 c243 c244 c245 c246 c247 c248 c249 c250 c251 c252 c253 c254 c255 c256 c257 c258 c259 c260 c261 c262 c263 c264 c265 c266 c267 c268 c269 c270 c271 c272 c273 c274 c275 c276 c277 c278 c279 c280 c281 c282 c283 c284 c285 c286 c287 c288 c289 c290 c291 c292 c293 c294 c295 c296 c297 c298 c299 c300 c301 c302 c303 c304 c305 c306 c307 c308 c309 c310 c311 c312 c313 c314 c315 c316 c317 c318 c319 c320 c321 c322 c323 c324 c325 c326 c327 c328 c329 c330 c331 c332 c333 c334 c335 c336 c337 c338 c339 c340 c341 c342 c343 c344 c345 c346 c347 c348 c349 c350 c351 c352 c353 c354 c355 c356 c357 c358 c359 c360 c361 c362 c363 c364 c365 c366 c367 c368 c369 c370 c371 c372 c373 c374 : Value) (Q : Exit → Act → World → Prop) (HLC : Aside0 (l.length ≤ c)) (CL : Aside0 (Kd.C k25 T2 A l.length l)) (HX : Aside0 (∀ i : Nat, i < 2 → ∃ x : S25, T2.cell? ⟨g2, i * 3, none⟩ = some (.int .i64 x.f0) ∧ T2.cell? ⟨g2, i * 3 + 1, none⟩ = some (.int .i64 x.f1) ∧ T2.cell? ⟨g2, i * 3 + 2, none⟩ = some (.int .i64 x.f2) ∧ tm_put k l x)) (hx : ∀ (u20 u42 u43 u44 u45 u46 u47 u48 u49 u50 u51 u52 u53 u54 u201 u202 u203 u204 u205 u206 u207 u208 u209 u210 u211 u212 u213 u214 u215 u216 u217 u218 u219 u220 u221 u222 u223 u224 u225 u226 u227 u228 u229 u230 u231 u232 u233 u234 u235 u236 u237 u238 u239 u240 u241 u242 u243 u244 u245 u246 u247 u248 u249 u250 u251 u252 u253 u254 u255 u256 u257 u258 u259 u260 u261 u262 u263 u264 u265 u266 u267 u268 u269 u270 u271 u272 u273 u274 u275 u276 u277 u278 u279 u280 u281 u282 : Value) (w' : World), Below T2.heap.size T2 w' → Q (.exit 4) ⟨List.toArray (c0 :: c1 :: c2 :: c3 :: c4 :: c5 :: c6 :: c7 :: c8 :: c9 :: c10 :: c11 :: c12 :: c13 :: c14 :: c15 :: c16 :: c17 :: c18 :: c19 :: u20 :: c21 :: c22 :: c23 :: c24 :: c25 :: .slice A l.length c :: c27 :: c28 :: c29 :: c30 :: c31 :: c32 :: c33 :: c34 :: c35 :: c36 :: c37 :: c38 :: c39 :: c40 :: c41 :: u42 :: u43 :: u44 :: u45 :: u46 :: u47 :: u48 :: u49 :: u50 :: u51 :: u52 :: u53 :: u54 :: c55 :: c56 :: c57 :: c58 :: c59 :: c60 :: c61 :: c62 :: c63 :: c64 :: c65 :: c66 :: c67 :: c68 :: c69 :: c70 :: c71 :: c72 :: c73 :: c74 :: c75 :: c76 :: c77 :: c78 :: c79 :: c80 :: c81 :: c82 :: c83 :: c84 :: c85 :: c86 :: c87 :: c88 :: c89 :: c90 :: c91 :: c92 :: c93 :: c94 :: c95 :: c96 :: c97 :: c98 :: c99 :: c100 :: c101 :: c102 :: c103 :: c104 :: c105 :: c106 :: c107 :: c108 :: c109 :: c110 :: c111 :: c112 :: c113 :: c114 :: c115 :: c116 :: c117 :: c118 :: c119 :: c120 :: c121 :: c122 :: c123 :: c124 :: c125 :: c126 :: c127 :: c128 :: c129 :: c130 :: c131 :: c132 :: c133 :: c134 :: c135 :: c136 :: c137 :: c138 :: c139 :: c140 :: c141 :: c142 :: c143 :: c144 :: c145 :: c146 :: c147 :: c148 :: c149 :: c150 :: c151 :: c152 :: c153 :: c154 :: c155 :: c156 :: c157 :: c158 :: c159 :: c160 :: c161 :: c162 :: c163 :: c164 :: c165 :: c166 :: c167 :: c168 :: c169 :: c170 :: c171 :: c172 :: c173 :: c174 :: c175 :: c176 :: c177 :: c178 :: c179 :: c180 :: c181 :: c182 :: c183 :: c184 :: c185 :: c186 :: c187 :: c188 :: c189 :: c190 :: c191 :: c192 :: c193 :: c194 :: c195 :: c196 :: c197 :: c198 :: .slice (some ⟨g2, 0, none⟩) 2 2 :: .int .i64 2 :: u201 :: u202 :: u203 :: u204 :: u205 :: u206 :: u207 :: u208 :: u209 :: u210 :: u211 :: u212 :: u213 :: u214 :: u215 :: u216 :: u217 :: u218 :: u219 :: u220 :: u221 :: u222 :: u223 :: u224 :: u225 :: u226 :: u227 :: u228 :: u229 :: u230 :: u231 :: u232 :: u233 :: u234 :: u235 :: u236 :: u237 :: u238 :: u239 :: u240 :: u241 :: u242 :: u243 :: u244 :: u245 :: u246 :: u247 :: u248 :: u249 :: u250 :: u251 :: u252 :: u253 :: u254 :: u255 :: u256 :: u257 :: u258 :: u259 :: u260 :: u261 :: u262 :: u263 :: u264 :: u265 :: u266 :: u267 :: u268 :: u269 :: u270 :: u271 :: u272 :: u273 :: u274 :: u275 :: u276 :: u277 :: u278 :: u279 :: u280 :: u281 :: u282 :: c283 :: c284 :: c285 :: c286 :: c287 :: c288 :: c289 :: c290 :: c291 :: c292 :: c293 :: c294 :: c295 :: c296 :: c297 :: c298 :: c299 :: c300 :: c301 :: c302 :: c303 :: c304 :: c305 :: c306 :: c307 :: c308 :: c309 :: c310 :: c311 :: c312 :: c313 :: c314 :: c315 :: c316 :: c317 :: c318 :: c319 :: c320 :: c321 :: c322 :: c323 :: c324 :: c325 :: c326 :: c327 :: c328 :: c329 :: c330 :: c331 :: c332 :: c333 :: c334 :: c335 :: c336 :: c337 :: c338 :: c339 :: c340 :: c341 :: c342 :: c343 :: c344 :: c345 :: c346 :: c347 :: c348 :: c349 :: c350 :: c351 :: c352 :: c353 :: c354 :: c355 :: c356 :: c357 :: c358 :: c359 :: c360 :: c361 :: c362 :: c363 :: c364 :: c365 :: c366 :: c367 :: c368 :: c369 :: c370 :: c371 :: c372 :: c373 :: c374 :: []), []⟩ w') :
    Code.wp Try.prog tm_l4 Q ⟨List.toArray (c0 :: c1 :: c2 :: c3 :: c4 :: c5 :: c6 :: c7 :: c8 :: c9 :: c10 :: c11 :: c12 :: c13 :: c14 :: c15 :: c16 :: c17 :: c18 :: c19 :: c20 :: c21 :: c22 :: c23 :: c24 :: c25 :: .slice A l.length c :: c27 :: c28 :: c29 :: c30 :: c31 :: c32 :: c33 :: c34 :: c35 :: c36 :: c37 :: c38 :: c39 :: c40 :: c41 :: c42 :: c43 :: c44 :: c45 :: c46 :: c47 :: c48 :: c49 :: c50 :: c51 :: c52 :: c53 :: c54 :: c55 :: c56 :: c57 :: c58 :: c59 :: c60 :: c61 :: c62 :: c63 :: c64 :: c65 :: c66 :: c67 :: c68 :: c69 :: c70 :: c71 :: c72 :: c73 :: c74 :: c75 :: c76 :: c77 :: c78 :: c79 :: c80 :: c81 :: c82 :: c83 :: c84 :: c85 :: c86 :: c87 :: c88 :: c89 :: c90 :: c91 :: c92 :: c93 :: c94 :: c95 :: c96 :: c97 :: c98 :: c99 :: c100 :: c101 :: c102 :: c103 :: c104 :: c105 :: c106 :: c107 :: c108 :: c109 :: c110 :: c111 :: c112 :: c113 :: c114 :: c115 :: c116 :: c117 :: c118 :: c119 :: c120 :: c121 :: c122 :: c123 :: c124 :: c125 :: c126 :: c127 :: c128 :: c129 :: c130 :: c131 :: c132 :: c133 :: c134 :: c135 :: c136 :: c137 :: c138 :: c139 :: c140 :: c141 :: c142 :: c143 :: c144 :: c145 :: c146 :: c147 :: c148 :: c149 :: c150 :: c151 :: c152 :: c153 :: c154 :: c155 :: c156 :: c157 :: c158 :: c159 :: c160 :: c161 :: c162 :: c163 :: c164 :: c165 :: c166 :: c167 :: c168 :: c169 :: c170 :: c171 :: c172 :: c173 :: c174 :: c175 :: c176 :: c177 :: c178 :: c179 :: c180 :: c181 :: c182 :: c183 :: c184 :: c185 :: c186 :: c187 :: c188 :: c189 :: c190 :: c191 :: c192 :: c193 :: c194 :: c195 :: c196 :: c197 :: c198 :: .slice (some ⟨g2, 0, none⟩) 2 2 :: .int .i64 2 :: .int .i64 0 :: c202 :: c203 :: c204 :: c205 :: c206 :: c207 :: c208 :: c209 :: c210 :: c211 :: c212 :: c213 :: c214 :: c215 :: c216 :: c217 :: c218 :: c219 :: c220 :: c221 :: c222 :: c223 :: c224 :: c225 :: c226 :: c227 :: c228 :: c229 :: c230 :: c231 :: c232 :: c233 :: c234 :: c235 :: c236 :: c237 :: c238 :: c239 :: c240 :: c241 :: c242 :: c243 :: c244 :: c245 :: c246 :: c247 :: c248 :: c249 :: c250 :: c251 :: c252 :: c253 :: c254 :: c255 :: c256 :: c257 :: c258 :: c259 :: c260 :: c261 :: c262 :: c263 :: c264 :: c265 :: c266 :: c267 :: c268 :: c269 :: c270 :: c271 :: c272 :: c273 :: c274 :: c275 :: c276 :: c277 :: c278 :: c279 :: c280 :: c281 :: c282 :: c283 :: c284 :: c285 :: c286 :: c287 :: c288 :: c289 :: c290 :: c291 :: c292 :: c293 :: c294 :: c295 :: c296 :: c297 :: c298 :: c299 :: c300 :: c301 :: c302 :: c303 :: c304 :: c305 :: c306 :: c307 :: c308 :: c309 :: c310 :: c311 :: c312 :: c313 :: c314 :: c315 :: c316 :: c317 :: c318 :: c319 :: c320 :: c321 :: c322 :: c323 :: c324 :: c325 :: c326 :: c327 :: c328 :: c329 :: c330 :: c331 :: c332 :: c333 :: c334 :: c335 :: c336 :: c337 :: c338 :: c339 :: c340 :: c341 :: c342 :: c343 :: c344 :: c345 :: c346 :: c347 :: c348 :: c349 :: c350 :: c351 :: c352 :: c353 :: c354 :: c355 :: c356 :: c357 :: c358 :: c359 :: c360 :: c361 :: c362 :: c363 :: c364 :: c365 :: c366 :: c367 :: c368 :: c369 :: c370 :: c371 :: c372 :: c373 :: c374 :: []), []⟩ T2 := by
  conv => arg 2; whnf
  go_loopw [201] (fun p wr => ∃ i : Nat, i ≤ 2 ∧ p = .int .i64 i ∧ Aside0 (Below T2.heap.size T2 wr)) (fun p _ => 2 - (intOf p).toNat)
  case atStart => exact ⟨0, by omega, rfl, ⟨Below.refl _ _⟩⟩
  case round =>
    obtain ⟨i, hi, rfl, HQ⟩ := hrel
    by_cases hlt1 : i < 2
    · obtain ⟨x, hx0, hx1, hx2, ⟨m1, e1, hA, hB, hC⟩, ⟨m2, e2, hD, hE, hF⟩, m3, e3, hG, hH, hI⟩ := HX.out i hlt1
      have y0 := pw_cell_below HQ.out hx0
      have y1 := pw_cell_below HQ.out hx1
      have y2 := pw_cell_below HQ.out hx2
      have EA1 := Aside0.mk hA; have EB1 := Aside0.mk hB; have EC1 := Aside0.mk hC; have ED1 := Aside0.mk hD; have EE1 := Aside0.mk hE; have EF1 := Aside0.mk hF; have EG1 := Aside0.mk hG; have EH1 := Aside0.mk hH; have EI1 := Aside0.mk hI
      clear hx0 hx1 hx2 hA hB hC hD hE hF hG hH hI
      have i1 : (i : Int) < 2 := by omega
      have i3 : (0 : Int) ≤ i := by omega
      have i4 : ((i : Int)).toNat = i := rfl
      go_wp2_with (fail)
      have hb := below_alloc (Below.refl wr.heap.size wr) (.cells #[.int .i64 x.f0, .int .i64 x.f1, .int .i64 x.f2] 25)
      obtain ⟨V0, hV0⟩ : ∃ V0, wr.alloc (.cells #[.int .i64 x.f0, .int .i64 x.f1, .int .i64 x.f2] 25) = V0 := ⟨_, rfl⟩
      have BX := Aside0.mk (show V0.heap[wr.heap.size]? = some (.cells #[.int .i64 x.f0, .int .i64 x.f1, .int .i64 x.f2] 25 (0, 0)) by rw [← hV0]; exact World.alloc_heap_new wr _)
      rw [hV0] at hb ⊢
      clear hV0 y0 y1 y2 i1 i3 i4
      replace HQ := Aside0.mk (below_step HQ.out hb); clear hb
      refine (timeline_Put.calls A c l x.f0 x.f1 x.f2 m1 e1 _ (Kd.C_below CL.out HQ.out) HLC.out EA1.out).mono ?_
      rintro e V1 ⟨v, rfl, hr, hb⟩
      obtain ⟨D0, d0, rfl, hd, hD⟩ := Kd.R_reads hr
      replace HQ := Aside0.mk (below_step HQ.out hb); replace BX := Aside0.mk (blk_below BX.out hb); clear hb
      have HD0 := Aside0.mk hD; have HE0 := Aside0.mk hd; clear hr hd hD
      have y0 : V1.cell? ⟨wr.heap.size, 0, none⟩ = some (.int .i64 x.f0) := (blk_cell BX.out 0).trans rfl
      have y1 : V1.cell? ⟨wr.heap.size, 1, none⟩ = some (.int .i64 x.f1) := (blk_cell BX.out 1).trans rfl
      have y2 : V1.cell? ⟨wr.heap.size, 2, none⟩ = some (.int .i64 x.f2) := (blk_cell BX.out 2).trans rfl
      go_wp2_with (fail)
      clear y0 y1 y2
      refine (aircheckref15_Put.calls k A c l x.f0 x.f1 x.f2 m1 e1 _ (Kd.C_below CL.out HQ.out) HLC.out EB1.out).mono ?_
      rintro e V2 ⟨v, rfl, hr, hb⟩
      obtain ⟨D1, d1, rfl, hd, hD⟩ := Kd.R_reads hr
      replace HQ := Aside0.mk (below_step HQ.out hb); replace BX := Aside0.mk (blk_below BX.out hb); replace HD0 := Aside0.mk (Kd.C_below HD0.out hb); clear hb
      have HD1 := Aside0.mk hD; have HE1 := Aside0.mk hd; clear hr hd hD
      have y0 : V2.cell? ⟨wr.heap.size, 0, none⟩ = some (.int .i64 x.f0) := (blk_cell BX.out 0).trans rfl
      have y1 : V2.cell? ⟨wr.heap.size, 1, none⟩ = some (.int .i64 x.f1) := (blk_cell BX.out 1).trans rfl
      have y2 : V2.cell? ⟨wr.heap.size, 2, none⟩ = some (.int .i64 x.f2) := (blk_cell BX.out 2).trans rfl
      go_wp2_with (fail)
      clear y0 y1 y2
      refine (timeline_Within.calls A c l x.f0 x.f1 m2 e2 _ (Kd.C_below CL.out HQ.out) HLC.out ED1.out).mono ?_
      rintro e V3 ⟨v, rfl, hr, hb⟩
      obtain ⟨D2, d2, rfl, hd, hD⟩ := Kd.R_reads hr
      replace HQ := Aside0.mk (below_step HQ.out hb); replace BX := Aside0.mk (blk_below BX.out hb); replace HD0 := Aside0.mk (Kd.C_below HD0.out hb); replace HD1 := Aside0.mk (Kd.C_below HD1.out hb); clear hb
      have HD2 := Aside0.mk hD; have HE2 := Aside0.mk hd; clear hr hd hD
      have y0 : V3.cell? ⟨wr.heap.size, 0, none⟩ = some (.int .i64 x.f0) := (blk_cell BX.out 0).trans rfl
      have y1 : V3.cell? ⟨wr.heap.size, 1, none⟩ = some (.int .i64 x.f1) := (blk_cell BX.out 1).trans rfl
      have y2 : V3.cell? ⟨wr.heap.size, 2, none⟩ = some (.int .i64 x.f2) := (blk_cell BX.out 2).trans rfl
      go_wp2_with (fail)
      clear y0 y1 y2
      refine (aircheckref15_Within.calls k A c l x.f0 x.f1 m2 e2 _ (Kd.C_below CL.out HQ.out) HLC.out EE1.out).mono ?_
      rintro e V4 ⟨v, rfl, hr, hb⟩
      obtain ⟨D3, d3, rfl, hd, hD⟩ := Kd.R_reads hr
      replace HQ := Aside0.mk (below_step HQ.out hb); replace BX := Aside0.mk (blk_below BX.out hb); replace HD0 := Aside0.mk (Kd.C_below HD0.out hb); replace HD1 := Aside0.mk (Kd.C_below HD1.out hb); replace HD2 := Aside0.mk (Kd.C_below HD2.out hb); clear hb
      have HD3 := Aside0.mk hD; have HE3 := Aside0.mk hd; clear hr hd hD
      have y0 : V4.cell? ⟨wr.heap.size, 0, none⟩ = some (.int .i64 x.f0) := (blk_cell BX.out 0).trans rfl
      have y1 : V4.cell? ⟨wr.heap.size, 1, none⟩ = some (.int .i64 x.f1) := (blk_cell BX.out 1).trans rfl
      have y2 : V4.cell? ⟨wr.heap.size, 2, none⟩ = some (.int .i64 x.f2) := (blk_cell BX.out 2).trans rfl
      go_wp2_with (fail)
      clear y0 y1 y2
      refine (timeline_Owned.calls k A c l x.f2 m3 e3 _ (Kd.C_below CL.out HQ.out) HLC.out EG1.out).mono ?_
      rintro e V5 ⟨v, rfl, hr, hb⟩
      obtain ⟨D4, d4, rfl, hd, hD⟩ := Kd.R_reads hr
      replace HQ := Aside0.mk (below_step HQ.out hb); replace BX := Aside0.mk (blk_below BX.out hb); replace HD0 := Aside0.mk (Kd.C_below HD0.out hb); replace HD1 := Aside0.mk (Kd.C_below HD1.out hb); replace HD2 := Aside0.mk (Kd.C_below HD2.out hb); replace HD3 := Aside0.mk (Kd.C_below HD3.out hb); clear hb
      have HD4 := Aside0.mk hD; have HE4 := Aside0.mk hd; clear hr hd hD
      have y0 : V5.cell? ⟨wr.heap.size, 0, none⟩ = some (.int .i64 x.f0) := (blk_cell BX.out 0).trans rfl
      have y1 : V5.cell? ⟨wr.heap.size, 1, none⟩ = some (.int .i64 x.f1) := (blk_cell BX.out 1).trans rfl
      have y2 : V5.cell? ⟨wr.heap.size, 2, none⟩ = some (.int .i64 x.f2) := (blk_cell BX.out 2).trans rfl
      go_wp2_with (fail)
      clear y0 y1 y2
      refine (aircheckref15_Owned.calls k A c l x.f2 m3 e3 _ (Kd.C_below CL.out HQ.out) HLC.out EH1.out).mono ?_
      rintro e V6 ⟨v, rfl, hr, hb⟩
      obtain ⟨D5, d5, rfl, hd, hD⟩ := Kd.R_reads hr
      replace HQ := Aside0.mk (below_step HQ.out hb); replace BX := Aside0.mk (blk_below BX.out hb); replace HD0 := Aside0.mk (Kd.C_below HD0.out hb); replace HD1 := Aside0.mk (Kd.C_below HD1.out hb); replace HD2 := Aside0.mk (Kd.C_below HD2.out hb); replace HD3 := Aside0.mk (Kd.C_below HD3.out hb); replace HD4 := Aside0.mk (Kd.C_below HD4.out hb); clear hb
      have HD5 := Aside0.mk hD; have HE5 := Aside0.mk hd; clear hr hd hD
      have q1 : (e1 != e1) = false := bne_self_eq_false _
      have q2 : (e2 != e2) = false := bne_self_eq_false _
      have q3 : (e3 != e3) = false := bne_self_eq_false _
      go_wp2_with (fail)
      refine (aircheckref15_Same.calls k D0 d0 m1 D1 d1 m1 true _ HD0.out HE0.out HD1.out HE1.out EC1.out).mono ?_
      rintro e V7 ⟨rfl, hd⟩
      have hb := hd.below; clear hd
      replace HQ := Aside0.mk (below_step HQ.out hb); replace HD2 := Aside0.mk (Kd.C_below HD2.out hb); replace HD3 := Aside0.mk (Kd.C_below HD3.out hb); replace HD4 := Aside0.mk (Kd.C_below HD4.out hb); replace HD5 := Aside0.mk (Kd.C_below HD5.out hb); clear hb
      go_wp2_with (fail)
      refine (aircheckref15_Same.calls k D2 d2 m2 D3 d3 m2 true _ HD2.out HE2.out HD3.out HE3.out EF1.out).mono ?_
      rintro e V8 ⟨rfl, hd⟩
      have hb := hd.below; clear hd
      replace HQ := Aside0.mk (below_step HQ.out hb); replace HD4 := Aside0.mk (Kd.C_below HD4.out hb); replace HD5 := Aside0.mk (Kd.C_below HD5.out hb); clear hb
      go_wp2_with (fail)
      refine (aircheckref07_SameSpells.calls k D4 d4 m3 D5 d5 m3 true _ HD4.out HE4.out HD5.out HE5.out EI1.out).mono ?_
      rintro e V9 ⟨rfl, hd⟩
      have hb := hd.below; clear hd
      replace HQ := Aside0.mk (below_step HQ.out hb); clear hb
      go_wp2
      go_roundw
      case rel => exact ⟨i + 1, by omega, by go_num, HQ⟩
      case measure => simp [intOf]; omega
    · obtain rfl : i = 2 := by omega
      clear hi hlt1 HX
      have hb := HQ.out; clear HQ
      go_wp2
      exact hb
noncomputable def tm_l6 : Code := ((Try.f3.body.bind (tm_lp 6)).getD .skip)
set_option maxHeartbeats 400000000 in
set_option maxRecDepth 1000000 in
theorem tm_seg6 {k : Nat} {l : List S25} {A : Option Addr} {c g3 : Nat} {T3 : World} (c0 c1 c2 c3 c4 c5 c6 c7 c8 c9 c10 c11 c12 c13 c14 c15 c16 c17 c18 c19 c20 c21 c22 c23 c24 c25 c27 c28 c29 c30 c31 c32 c33 c34 c35 c36 c37 c38 c39 c40 c41 c42 c43 c44 c45 c46 c47 c48 c49 c50 c51 c52 c53 c54 c55 c56 c57 c58 c59 c60 c61 c62 c63 c64 c65 c66 c67 c68 c69 c70 c71 c72 c73 c74 c75 c76 c77 c78 c79 c80 c81 c82 c83 c84 c85 c86 c87 c88 c89 c90 c91 c92 c93 c94 c95 c96 c97 c98 c99 c100 c101 c102 c103 c104 c105 c106 c107 c108 c109 c110 c111 c112 c113 c114 c115 c116 c117 c118 c119 c120 c121 c122 c123 c124 c125 c126 c127 c128 c129 c130 c131 c132 c133 c134 c135 c136 c137 c138 c139 c140 c141 c142 c143 c144 c145 c146 c147 c148 c149 c150 c151 c152 c153 c154 c155 c156 c157 c158 c159 c160 c161 c162 c163 c164 c165 c166 c167 c168 c169 c170 c171 c172 c173 c174 c175 c176 c177 c178 c179 c180 c181 c182 c183 c184 c185 c186 c187 c188 c189 c190 c191 c192 c193 c194 c195 c196 c197 c198 c199 c200 c201 c202 c203 c204 c205 c206 c207 c208 c209 c210 c211 c212 c213 c214 c215 c216 c217 c218 c219 c220 c221 c222 c223 c224 c225 c226 c227 c228 c229 c230 c231 c232 c233 c234 c235 c236 c237 c238 c239 c240 c241 c242 c243 c244 c245 c246 c247 c248 c249 c250 c251 c252 c253 c254 c255 c256 c257 c258 c259 c260 c261 c262 c263 c264 c265 c266 c267 c268 c269 c270 c271 c272 c273 c274 c275 c276 c277 c278 c279 c280 c281 c282 c283 c284 c285 c286 c290 c291 c292 c293 c294 c295 c296 c297 c298 c299 c300 c301 c302 c303 c304 c305 c306 c307 c308 c309 c310 c311 c312 c313 c314 c315 c316 c317 c318 c319 c320 c321 c322 c323 c324 c325 c326 c327 c328 c329 c330 c331 c332 c333 c334 c335 c336 c337 c338 c339 c340 c341 c342 c343 c344 c345 c346 c347 c348 c349 c350 c351 c352 c353 c354 c355 c356 c357 c358 c359 c360 c361 c362 c363 c364 c365 c366 c367 c368 c369 c370 c371 c372 c373 c374 : Value) (Q : Exit → Act → World → Prop) (HLC : Aside0 (l.length ≤ c)) (CL : Aside0 (Kd.C k25 T3 A l.length l)) (HX : Aside0 (∀ i : Nat, i < 3 → ∃ (A' : Option Addr) (c' : Nat) (l' : List S25), T3.cell? ⟨g3, i, none⟩ = some (.slice A' l'.length c') ∧ l'.length ≤ c' ∧ Kd.C k25 T3 A' l'.length l' ∧ tm_sp k (timeline_Diff.f l l') (aircheckref15_Diff.f k l l'))) (hx : ∀ (u20 u56 u57 u58 u59 u60 u289 u290 u291 u292 u293 u294 u295 u296 u297 u298 u299 u300 u301 u302 u303 u304 u305 u306 u307 u308 u309 u310 u311 u312 u313 u314 : Value) (w' : World), Below T3.heap.size T3 w' → Q (.exit 6) ⟨List.toArray (c0 :: c1 :: c2 :: c3 :: c4 :: c5 :: c6 :: c7 :: c8 :: c9 :: c10 :: c11 :: c12 :: c13 :: c14 :: c15 :: c16 :: c17 :: c18 :: c19 :: u20 :: c21 :: c22 :: c23 :: c24 :: c25 :: .slice A l.length c :: c27 :: c28 :: c29 :: c30 :: c31 :: c32 :: c33 :: c34 :: c35 :: c36 :: c37 :: c38 :: c39 :: c40 :: c41 :: c42 :: c43 :: c44 :: c45 :: c46 :: c47 :: c48 :: c49 :: c50 :: c51 :: c52 :: c53 :: c54 :: c55 :: u56 :: u57 :: u58 :: u59 :: u60 :: c61 :: c62 :: c63 :: c64 :: c65 :: c66 :: c67 :: c68 :: c69 :: c70 :: c71 :: c72 :: c73 :: c74 :: c75 :: c76 :: c77 :: c78 :: c79 :: c80 :: c81 :: c82 :: c83 :: c84 :: c85 :: c86 :: c87 :: c88 :: c89 :: c90 :: c91 :: c92 :: c93 :: c94 :: c95 :: c96 :: c97 :: c98 :: c99 :: c100 :: c101 :: c102 :: c103 :: c104 :: c105 :: c106 :: c107 :: c108 :: c109 :: c110 :: c111 :: c112 :: c113 :: c114 :: c115 :: c116 :: c117 :: c118 :: c119 :: c120 :: c121 :: c122 :: c123 :: c124 :: c125 :: c126 :: c127 :: c128 :: c129 :: c130 :: c131 :: c132 :: c133 :: c134 :: c135 :: c136 :: c137 :: c138 :: c139 :: c140 :: c141 :: c142 :: c143 :: c144 :: c145 :: c146 :: c147 :: c148 :: c149 :: c150 :: c151 :: c152 :: c153 :: c154 :: c155 :: c156 :: c157 :: c158 :: c159 :: c160 :: c161 :: c162 :: c163 :: c164 :: c165 :: c166 :: c167 :: c168 :: c169 :: c170 :: c171 :: c172 :: c173 :: c174 :: c175 :: c176 :: c177 :: c178 :: c179 :: c180 :: c181 :: c182 :: c183 :: c184 :: c185 :: c186 :: c187 :: c188 :: c189 :: c190 :: c191 :: c192 :: c193 :: c194 :: c195 :: c196 :: c197 :: c198 :: c199 :: c200 :: c201 :: c202 :: c203 :: c204 :: c205 :: c206 :: c207 :: c208 :: c209 :: c210 :: c211 :: c212 :: c213 :: c214 :: c215 :: c216 :: c217 :: c218 :: c219 :: c220 :: c221 :: c222 :: c223 :: c224 :: c225 :: c226 :: c227 :: c228 :: c229 :: c230 :: c231 :: c232 :: c233 :: c234 :: c235 :: c236 :: c237 :: c238 :: c239 :: c240 :: c241 :: c242 :: c243 :: c244 :: c245 :: c246 :: c247 :: c248 :: c249 :: c250 :: c251 :: c252 :: c253 :: c254 :: c255 :: c256 :: c257 :: c258 :: c259 :: c260 :: c261 :: c262 :: c263 :: c264 :: c265 :: c266 :: c267 :: c268 :: c269 :: c270 :: c271 :: c272 :: c273 :: c274 :: c275 :: c276 :: c277 :: c278 :: c279 :: c280 :: c281 :: c282 :: c283 :: c284 :: c285 :: c286 :: .slice (some ⟨g3, 0, none⟩) 3 3 :: .int .i64 3 :: u289 :: u290 :: u291 :: u292 :: u293 :: u294 :: u295 :: u296 :: u297 :: u298 :: u299 :: u300 :: u301 :: u302 :: u303 :: u304 :: u305 :: u306 :: u307 :: u308 :: u309 :: u310 :: u311 :: u312 :: u313 :: u314 :: c315 :: c316 :: c317 :: c318 :: c319 :: c320 :: c321 :: c322 :: c323 :: c324 :: c325 :: c326 :: c327 :: c328 :: c329 :: c330 :: c331 :: c332 :: c333 :: c334 :: c335 :: c336 :: c337 :: c338 :: c339 :: c340 :: c341 :: c342 :: c343 :: c344 :: c345 :: c346 :: c347 :: c348 :: c349 :: c350 :: c351 :: c352 :: c353 :: c354 :: c355 :: c356 :: c357 :: c358 :: c359 :: c360 :: c361 :: c362 :: c363 :: c364 :: c365 :: c366 :: c367 :: c368 :: c369 :: c370 :: c371 :: c372 :: c373 :: c374 :: []), []⟩ w') :
    Code.wp Try.prog tm_l6 Q ⟨List.toArray (c0 :: c1 :: c2 :: c3 :: c4 :: c5 :: c6 :: c7 :: c8 :: c9 :: c10 :: c11 :: c12 :: c13 :: c14 :: c15 :: c16 :: c17 :: c18 :: c19 :: c20 :: c21 :: c22 :: c23 :: c24 :: c25 :: .slice A l.length c :: c27 :: c28 :: c29 :: c30 :: c31 :: c32 :: c33 :: c34 :: c35 :: c36 :: c37 :: c38 :: c39 :: c40 :: c41 :: c42 :: c43 :: c44 :: c45 :: c46 :: c47 :: c48 :: c49 :: c50 :: c51 :: c52 :: c53 :: c54 :: c55 :: c56 :: c57 :: c58 :: c59 :: c60 :: c61 :: c62 :: c63 :: c64 :: c65 :: c66 :: c67 :: c68 :: c69 :: c70 :: c71 :: c72 :: c73 :: c74 :: c75 :: c76 :: c77 :: c78 :: c79 :: c80 :: c81 :: c82 :: c83 :: c84 :: c85 :: c86 :: c87 :: c88 :: c89 :: c90 :: c91 :: c92 :: c93 :: c94 :: c95 :: c96 :: c97 :: c98 :: c99 :: c100 :: c101 :: c102 :: c103 :: c104 :: c105 :: c106 :: c107 :: c108 :: c109 :: c110 :: c111 :: c112 :: c113 :: c114 :: c115 :: c116 :: c117 :: c118 :: c119 :: c120 :: c121 :: c122 :: c123 :: c124 :: c125 :: c126 :: c127 :: c128 :: c129 :: c130 :: c131 :: c132 :: c133 :: c134 :: c135 :: c136 :: c137 :: c138 :: c139 :: c140 :: c141 :: c142 :: c143 :: c144 :: c145 :: c146 :: c147 :: c148 :: c149 :: c150 :: c151 :: c152 :: c153 :: c154 :: c155 :: c156 :: c157 :: c158 :: c159 :: c160 :: c161 :: c162 :: c163 :: c164 :: c165 :: c166 :: c167 :: c168 :: c169 :: c170 :: c171 :: c172 :: c173 :: c174 :: c175 :: c176 :: c177 :: c178 :: c179 :: c180 :: c181 :: c182 :: c183 :: c184 :: c185 :: c186 :: c187 :: c188 :: c189 :: c190 :: c191 :: c192 :: c193 :: c194 :: c195 :: c196 :: c197 :: c198 :: c199 :: c200 :: c201 :: c202 :: c203 :: c204 :: c205 :: c206 :: c207 :: c208 :: c209 :: c210 :: c211 :: c212 :: c213 :: c214 :: c215 :: c216 :: c217 :: c218 :: c219 :: c220 :: c221 :: c222 :: c223 :: c224 :: c225 :: c226 :: c227 :: c228 :: c229 :: c230 :: c231 :: c232 :: c233 :: c234 :: c235 :: c236 :: c237 :: c238 :: c239 :: c240 :: c241 :: c242 :: c243 :: c244 :: c245 :: c246 :: c247 :: c248 :: c249 :: c250 :: c251 :: c252 :: c253 :: c254 :: c255 :: c256 :: c257 :: c258 :: c259 :: c260 :: c261 :: c262 :: c263 :: c264 :: c265 :: c266 :: c267 :: c268 :: c269 :: c270 :: c271 :: c272 :: c273 :: c274 :: c275 :: c276 :: c277 :: c278 :: c279 :: c280 :: c281 :: c282 :: c283 :: c284 :: c285 :: c286 :: .slice (some ⟨g3, 0, none⟩) 3 3 :: .int .i64 3 :: .int .i64 0 :: c290 :: c291 :: c292 :: c293 :: c294 :: c295 :: c296 :: c297 :: c298 :: c299 :: c300 :: c301 :: c302 :: c303 :: c304 :: c305 :: c306 :: c307 :: c308 :: c309 :: c310 :: c311 :: c312 :: c313 :: c314 :: c315 :: c316 :: c317 :: c318 :: c319 :: c320 :: c321 :: c322 :: c323 :: c324 :: c325 :: c326 :: c327 :: c328 :: c329 :: c330 :: c331 :: c332 :: c333 :: c334 :: c335 :: c336 :: c337 :: c338 :: c339 :: c340 :: c341 :: c342 :: c343 :: c344 :: c345 :: c346 :: c347 :: c348 :: c349 :: c350 :: c351 :: c352 :: c353 :: c354 :: c355 :: c356 :: c357 :: c358 :: c359 :: c360 :: c361 :: c362 :: c363 :: c364 :: c365 :: c366 :: c367 :: c368 :: c369 :: c370 :: c371 :: c372 :: c373 :: c374 :: []), []⟩ T3 := by
  conv => arg 2; whnf
  go_loopw [289] (fun p wr => ∃ i : Nat, i ≤ 3 ∧ p = .int .i64 i ∧ Aside0 (Below T3.heap.size T3 wr)) (fun p _ => 3 - (intOf p).toNat)
  case atStart => exact ⟨0, by omega, rfl, ⟨Below.refl _ _⟩⟩
  case round =>
    obtain ⟨i, hi, rfl, HQ⟩ := hrel
    by_cases hlt1 : i < 3
    · obtain ⟨A', c', l', hx1, hlc', hC', m1, e1, hA, hB, hS⟩ := HX.out i hlt1
      have hx' := pw_cell_below HQ.out hx1
      have HLC' := Aside0.mk hlc'; have CL' := Aside0.mk hC'; have EA1 := Aside0.mk hA; have EB1 := Aside0.mk hB; have EC1 := Aside0.mk hS
      clear hx1 hlc' hC' hA hB hS
      have i1 : (i : Int) < 3 := by omega
      have i3 : (0 : Int) ≤ i := by omega
      have i4 : ((i : Int)).toNat = i := rfl
      go_wp2_with (fail)
      refine (timeline_Diff.calls A c l A' c' l' m1 e1 _ (Kd.C_below CL.out HQ.out) HLC.out (Kd.C_below CL'.out HQ.out) HLC'.out EA1.out).mono ?_
      rintro e V1 ⟨v, rfl, hr, hb⟩
      obtain ⟨D0, d0, rfl, hd, hD⟩ := Kd.R_reads hr
      clear hx' i1 i3 i4
      replace HQ := Aside0.mk (below_step HQ.out hb); clear hb
      have HD0 := Aside0.mk hD; have HE0 := Aside0.mk hd; clear hr hd hD
      go_wp2_with (fail)
      refine (aircheckref15_Diff.calls k A c l A' c' l' m1 e1 _ (Kd.C_below CL.out HQ.out) HLC.out (Kd.C_below CL'.out HQ.out) HLC'.out EB1.out).mono ?_
      rintro e V2 ⟨v, rfl, hr, hb⟩
      obtain ⟨D1, d1, rfl, hd, hD⟩ := Kd.R_reads hr
      replace HQ := Aside0.mk (below_step HQ.out hb); replace HD0 := Aside0.mk (Kd.C_below HD0.out hb); clear hb
      have HD1 := Aside0.mk hD; have HE1 := Aside0.mk hd; clear hr hd hD
      have q1 : (e1 != e1) = false := bne_self_eq_false _
      go_wp2_with (fail)
      refine (aircheckref07_SameSpells.calls k D0 d0 m1 D1 d1 m1 true _ HD0.out HE0.out HD1.out HE1.out EC1.out).mono ?_
      rintro e V3 ⟨rfl, hd⟩
      have hb := hd.below; clear hd
      replace HQ := Aside0.mk (below_step HQ.out hb); clear hb
      go_wp2
      go_roundw
      case rel => exact ⟨i + 1, by omega, by go_num, HQ⟩
      case measure => simp [intOf]; omega
    · obtain rfl : i = 3 := by omega
      clear hi hlt1 HX
      have hb := HQ.out; clear HQ
      go_wp2
      exact hb
noncomputable def tm_l0 : Code := ((Try.f3.body.bind (tm_lp 0)).getD .skip)
set_option maxHeartbeats 400000000 in
set_option maxRecDepth 1000000 in
theorem tm_seg0 {k : Nat} {a0 a9 p tt a8_0 a8_1 a8_2 : Int} {l4 a b fw ins : List S25} {s2 : S25} {A4 Aa Ab : Option Addr} {ad : Addr} {c4 ca cb ci gb g0 : Nat} {w T0 : World} (c1 c2 c3 c5 c6 c7 c8 c10 c11 c12 c13 c14 c15 c16 c17 c19 c20 c21 c25 c26 c27 c28 c29 c30 c31 c32 c33 c34 c35 c36 c37 c38 c39 c40 c41 c42 c43 c44 c45 c46 c47 c48 c49 c50 c51 c52 c53 c54 c55 c56 c57 c58 c59 c60 c61 c62 c63 c64 c65 c66 c67 c68 c69 c70 c71 c72 c73 c74 c75 c76 c77 c78 c79 c80 c81 c82 c83 c84 c85 c86 c87 c88 c89 c90 c91 c92 c93 c94 c95 c99 c100 c101 c102 c103 c104 c105 c106 c107 c108 c109 c110 c111 c112 c113 c114 c115 c116 c117 c118 c119 c120 c121 c122 c123 c124 c125 c126 c127 c128 c129 c130 c131 c132 c133 c134 c135 c136 c137 c138 c139 c140 c141 c142 c143 c144 c145 c146 c147 c148 c149 c150 c151 c152 c153 c154 c155 c156 c157 c158 c159 c160 c161 c162 c163 c164 c165 c166 c167 c168 c169 c170 c171 c172 c173 c174 c175 c176 c177 c178 c179 c180 c181 c182 c183 c184 c185 c186 c187 c188 c189 c190 c191 c192 c193 c194 c195 c196 c197 c198 c199 c200 c201 c202 c203 c204 c205 c206 c207 c208 c209 c210 c211 c212 c213 c214 c215 c216 c217 c218 c219 c220 c221 c222 c223 c224 c225 c226 c227 c228 c229 c230 c231 c232 c233 c234 c235 c236 c237 c238 c239 c240 c241 c242 c243 c244 c245 c246 c247 c248 c249 c250 c251 c252 c253 c254 c255 c256 c257 c258 c259 c260 c261 c262 c263 c264 c265 c266 c267 c268 c269 c270 c271 c272 c273 c274 c275 c276 c277 c278 c279 c280 c281 c282 c283 c284 c285 c286 c287 c288 c289 c290 c291 c292 c293 c294 c295 c296 c297 c298 c299 c300 c301 c302 c303 c304 c305 c306 c307 c308 c309 c310 c311 c312 c313 c314 c315 c316 c317 c318 c319 c320 c321 c322 c323 c324 c325 c326 c327 c328 c329 c330 c331 c332 c333 c334 c335 c336 c337 c338 c339 c340 c341 c342 c343 c344 c345 c346 c347 c348 c349 c350 c351 c352 c353 c354 c355 c356 c357 c358 c359 c360 c361 c362 c363 c364 c365 c366 c367 c368 c369 c370 c371 c372 c373 c374 : Value) (Q : Exit → Act → World → Prop) (EP : Aside0 (airchecklaw15_pick.f a0 400 = some p)) (HP : Aside0 (0 ≤ p ∧ p < 400)) (ET : Aside0 (airchecklaw15_pick.f a9 (1 + p) = some tt)) (EF : Aside0 (airchecklaw15_few.f l4 = some fw)) (HR4 : Aside0 (Kd.C k25 w A4 l4.length l4)) (HC4 : Aside0 (l4.length ≤ c4)) (HB : Aside0 (Below w.heap.size w T0)) (BK : Aside0 (T0.heap[gb]? = some (.cells #[.int .i64 a8_0, .int .i64 a8_1, .int .i64 a8_2] 25 (0, 0)))) (HA : Aside0 (Kd.C k25 T0 Aa a.length a)) (HCA : Aside0 (a.length ≤ ca)) (HBb : Aside0 (Kd.C k25 T0 Ab b.length b)) (HCB : Aside0 (b.length ≤ cb)) (HI : Aside0 (Kd.C k25 T0 (some ad) (s2 :: ins).length (s2 :: ins))) (HL : Aside0 (∀ j : Nat, j < 3 → ∃ (A : Option Addr) (c : Nat) (l : List S25), T0.cell? ⟨g0, j, none⟩ = some (.slice A l.length c) ∧ l.length ≤ c ∧ Kd.C k25 T0 A l.length l ∧ tm_list k l b [a9, tt] [⟨a8_0, a8_1, a8_2⟩, s2] [a, b, fw])) (hx : ∀ (u20 u26 u28 u29 u30 u31 u32 u33 u34 u35 u36 u37 u38 u39 u40 u42 u43 u44 u45 u46 u47 u48 u49 u50 u51 u52 u53 u54 u56 u57 u58 u59 u60 u98 u99 u100 u101 u102 u103 u104 u105 u106 u107 u108 u109 u110 u111 u112 u113 u114 u115 u116 u117 u118 u119 u120 u121 u122 u123 u124 u125 u126 u127 u128 u129 u130 u131 u132 u133 u134 u135 u136 u137 u138 u139 u140 u141 u142 u143 u144 u145 u146 u147 u148 u149 u150 u151 u152 u153 u154 u155 u156 u157 u158 u159 u160 u161 u162 u163 u164 u165 u166 u167 u168 u169 u170 u171 u172 u173 u174 u175 u176 u177 u178 u179 u180 u181 u182 u183 u184 u185 u186 u187 u188 u189 u190 u191 u192 u193 u194 u195 u196 u197 u198 u199 u200 u201 u202 u203 u204 u205 u206 u207 u208 u209 u210 u211 u212 u213 u214 u215 u216 u217 u218 u219 u220 u221 u222 u223 u224 u225 u226 u227 u228 u229 u230 u231 u232 u233 u234 u235 u236 u237 u238 u239 u240 u241 u242 u243 u244 u245 u246 u247 u248 u249 u250 u251 u252 u253 u254 u255 u256 u257 u258 u259 u260 u261 u262 u263 u264 u265 u266 u267 u268 u269 u270 u271 u272 u273 u274 u275 u276 u277 u278 u279 u280 u281 u282 u283 u284 u285 u286 u287 u288 u289 u290 u291 u292 u293 u294 u295 u296 u297 u298 u299 u300 u301 u302 u303 u304 u305 u306 u307 u308 u309 u310 u311 u312 u313 u314 u315 : Value) (w' : World), Below T0.heap.size T0 w' → Q (.exit 0) ⟨List.toArray (.int .i64 a0 :: c1 :: c2 :: c3 :: .slice A4 l4.length c4 :: c5 :: c6 :: c7 :: c8 :: .int .i64 a9 :: c10 :: c11 :: c12 :: c13 :: c14 :: c15 :: c16 :: c17 :: .pointer (some ⟨gb, 0, none⟩) :: c19 :: u20 :: c21 :: .slice Aa a.length ca :: .slice Ab b.length cb :: .slice (some ad) (ins.length + 1) ci :: c25 :: u26 :: c27 :: u28 :: u29 :: u30 :: u31 :: u32 :: u33 :: u34 :: u35 :: u36 :: u37 :: u38 :: u39 :: u40 :: c41 :: u42 :: u43 :: u44 :: u45 :: u46 :: u47 :: u48 :: u49 :: u50 :: u51 :: u52 :: u53 :: u54 :: c55 :: u56 :: u57 :: u58 :: u59 :: u60 :: c61 :: c62 :: c63 :: c64 :: c65 :: c66 :: c67 :: c68 :: c69 :: c70 :: c71 :: c72 :: c73 :: c74 :: c75 :: c76 :: c77 :: c78 :: c79 :: c80 :: c81 :: c82 :: c83 :: c84 :: c85 :: c86 :: c87 :: c88 :: c89 :: c90 :: c91 :: c92 :: c93 :: c94 :: c95 :: .slice (some ⟨g0, 0, none⟩) 3 3 :: .int .i64 3 :: u98 :: u99 :: u100 :: u101 :: u102 :: u103 :: u104 :: u105 :: u106 :: u107 :: u108 :: u109 :: u110 :: u111 :: u112 :: u113 :: u114 :: u115 :: u116 :: u117 :: u118 :: u119 :: u120 :: u121 :: u122 :: u123 :: u124 :: u125 :: u126 :: u127 :: u128 :: u129 :: u130 :: u131 :: u132 :: u133 :: u134 :: u135 :: u136 :: u137 :: u138 :: u139 :: u140 :: u141 :: u142 :: u143 :: u144 :: u145 :: u146 :: u147 :: u148 :: u149 :: u150 :: u151 :: u152 :: u153 :: u154 :: u155 :: u156 :: u157 :: u158 :: u159 :: u160 :: u161 :: u162 :: u163 :: u164 :: u165 :: u166 :: u167 :: u168 :: u169 :: u170 :: u171 :: u172 :: u173 :: u174 :: u175 :: u176 :: u177 :: u178 :: u179 :: u180 :: u181 :: u182 :: u183 :: u184 :: u185 :: u186 :: u187 :: u188 :: u189 :: u190 :: u191 :: u192 :: u193 :: u194 :: u195 :: u196 :: u197 :: u198 :: u199 :: u200 :: u201 :: u202 :: u203 :: u204 :: u205 :: u206 :: u207 :: u208 :: u209 :: u210 :: u211 :: u212 :: u213 :: u214 :: u215 :: u216 :: u217 :: u218 :: u219 :: u220 :: u221 :: u222 :: u223 :: u224 :: u225 :: u226 :: u227 :: u228 :: u229 :: u230 :: u231 :: u232 :: u233 :: u234 :: u235 :: u236 :: u237 :: u238 :: u239 :: u240 :: u241 :: u242 :: u243 :: u244 :: u245 :: u246 :: u247 :: u248 :: u249 :: u250 :: u251 :: u252 :: u253 :: u254 :: u255 :: u256 :: u257 :: u258 :: u259 :: u260 :: u261 :: u262 :: u263 :: u264 :: u265 :: u266 :: u267 :: u268 :: u269 :: u270 :: u271 :: u272 :: u273 :: u274 :: u275 :: u276 :: u277 :: u278 :: u279 :: u280 :: u281 :: u282 :: u283 :: u284 :: u285 :: u286 :: u287 :: u288 :: u289 :: u290 :: u291 :: u292 :: u293 :: u294 :: u295 :: u296 :: u297 :: u298 :: u299 :: u300 :: u301 :: u302 :: u303 :: u304 :: u305 :: u306 :: u307 :: u308 :: u309 :: u310 :: u311 :: u312 :: u313 :: u314 :: u315 :: c316 :: c317 :: c318 :: c319 :: c320 :: c321 :: c322 :: c323 :: c324 :: c325 :: c326 :: c327 :: c328 :: c329 :: c330 :: c331 :: c332 :: c333 :: c334 :: c335 :: c336 :: c337 :: c338 :: c339 :: c340 :: c341 :: c342 :: c343 :: c344 :: c345 :: c346 :: c347 :: c348 :: c349 :: c350 :: c351 :: c352 :: c353 :: c354 :: c355 :: c356 :: c357 :: c358 :: c359 :: c360 :: c361 :: c362 :: c363 :: c364 :: c365 :: c366 :: c367 :: c368 :: c369 :: c370 :: c371 :: c372 :: c373 :: c374 :: []), []⟩ w') :
    Code.wp Try.prog tm_l0 Q ⟨List.toArray (.int .i64 a0 :: c1 :: c2 :: c3 :: .slice A4 l4.length c4 :: c5 :: c6 :: c7 :: c8 :: .int .i64 a9 :: c10 :: c11 :: c12 :: c13 :: c14 :: c15 :: c16 :: c17 :: .pointer (some ⟨gb, 0, none⟩) :: c19 :: c20 :: c21 :: .slice Aa a.length ca :: .slice Ab b.length cb :: .slice (some ad) (ins.length + 1) ci :: c25 :: c26 :: c27 :: c28 :: c29 :: c30 :: c31 :: c32 :: c33 :: c34 :: c35 :: c36 :: c37 :: c38 :: c39 :: c40 :: c41 :: c42 :: c43 :: c44 :: c45 :: c46 :: c47 :: c48 :: c49 :: c50 :: c51 :: c52 :: c53 :: c54 :: c55 :: c56 :: c57 :: c58 :: c59 :: c60 :: c61 :: c62 :: c63 :: c64 :: c65 :: c66 :: c67 :: c68 :: c69 :: c70 :: c71 :: c72 :: c73 :: c74 :: c75 :: c76 :: c77 :: c78 :: c79 :: c80 :: c81 :: c82 :: c83 :: c84 :: c85 :: c86 :: c87 :: c88 :: c89 :: c90 :: c91 :: c92 :: c93 :: c94 :: c95 :: .slice (some ⟨g0, 0, none⟩) 3 3 :: .int .i64 3 :: .int .i64 0 :: c99 :: c100 :: c101 :: c102 :: c103 :: c104 :: c105 :: c106 :: c107 :: c108 :: c109 :: c110 :: c111 :: c112 :: c113 :: c114 :: c115 :: c116 :: c117 :: c118 :: c119 :: c120 :: c121 :: c122 :: c123 :: c124 :: c125 :: c126 :: c127 :: c128 :: c129 :: c130 :: c131 :: c132 :: c133 :: c134 :: c135 :: c136 :: c137 :: c138 :: c139 :: c140 :: c141 :: c142 :: c143 :: c144 :: c145 :: c146 :: c147 :: c148 :: c149 :: c150 :: c151 :: c152 :: c153 :: c154 :: c155 :: c156 :: c157 :: c158 :: c159 :: c160 :: c161 :: c162 :: c163 :: c164 :: c165 :: c166 :: c167 :: c168 :: c169 :: c170 :: c171 :: c172 :: c173 :: c174 :: c175 :: c176 :: c177 :: c178 :: c179 :: c180 :: c181 :: c182 :: c183 :: c184 :: c185 :: c186 :: c187 :: c188 :: c189 :: c190 :: c191 :: c192 :: c193 :: c194 :: c195 :: c196 :: c197 :: c198 :: c199 :: c200 :: c201 :: c202 :: c203 :: c204 :: c205 :: c206 :: c207 :: c208 :: c209 :: c210 :: c211 :: c212 :: c213 :: c214 :: c215 :: c216 :: c217 :: c218 :: c219 :: c220 :: c221 :: c222 :: c223 :: c224 :: c225 :: c226 :: c227 :: c228 :: c229 :: c230 :: c231 :: c232 :: c233 :: c234 :: c235 :: c236 :: c237 :: c238 :: c239 :: c240 :: c241 :: c242 :: c243 :: c244 :: c245 :: c246 :: c247 :: c248 :: c249 :: c250 :: c251 :: c252 :: c253 :: c254 :: c255 :: c256 :: c257 :: c258 :: c259 :: c260 :: c261 :: c262 :: c263 :: c264 :: c265 :: c266 :: c267 :: c268 :: c269 :: c270 :: c271 :: c272 :: c273 :: c274 :: c275 :: c276 :: c277 :: c278 :: c279 :: c280 :: c281 :: c282 :: c283 :: c284 :: c285 :: c286 :: c287 :: c288 :: c289 :: c290 :: c291 :: c292 :: c293 :: c294 :: c295 :: c296 :: c297 :: c298 :: c299 :: c300 :: c301 :: c302 :: c303 :: c304 :: c305 :: c306 :: c307 :: c308 :: c309 :: c310 :: c311 :: c312 :: c313 :: c314 :: c315 :: c316 :: c317 :: c318 :: c319 :: c320 :: c321 :: c322 :: c323 :: c324 :: c325 :: c326 :: c327 :: c328 :: c329 :: c330 :: c331 :: c332 :: c333 :: c334 :: c335 :: c336 :: c337 :: c338 :: c339 :: c340 :: c341 :: c342 :: c343 :: c344 :: c345 :: c346 :: c347 :: c348 :: c349 :: c350 :: c351 :: c352 :: c353 :: c354 :: c355 :: c356 :: c357 :: c358 :: c359 :: c360 :: c361 :: c362 :: c363 :: c364 :: c365 :: c366 :: c367 :: c368 :: c369 :: c370 :: c371 :: c372 :: c373 :: c374 :: []), []⟩ T0 := by
  conv => arg 2; whnf
  go_loopw [98] (fun p wr => ∃ j : Nat, j ≤ 3 ∧ p = .int .i64 j ∧ Aside0 (Below T0.heap.size T0 wr)) (fun p _ => 3 - (intOf p).toNat)
  case atStart => exact ⟨0, by omega, rfl, ⟨Below.refl _ _⟩⟩
  case round =>
    obtain ⟨j, hj, rfl, HR⟩ := hrel
    by_cases hlt : j < 3
    · obtain ⟨A, c, l, hcell, hlc, hC, hT⟩ := HL.out j hlt
      have hcell' := pw_cell_below HR.out hcell
      have HLC := Aside0.mk hlc
      have HC := Aside0.mk hC
      obtain ⟨⟨v0, hv1, hv2⟩, ⟨e0, he1, he2⟩, h3, h4, h5⟩ := hT
      have V1 := Aside0.mk hv1; have V2 := Aside0.mk hv2; have E1 := Aside0.mk he1; have E2 := Aside0.mk he2; have H3 := Aside0.mk h3; have H4 := Aside0.mk h4; have H5 := Aside0.mk h5
      clear hcell hlc hC hv1 hv2 he1 he2 h3 h4 h5
      have i1 : (j : Int) < 3 := by omega
      have i3 : (0 : Int) ≤ j := by omega
      have i4 : ((j : Int)).toNat = j := rfl
      go_wp2_with (fail)
      refine (timeline_Valid.calls k A c l v0 _ (Kd.C_below HC.out HR.out) HLC.out V1.out).mono ?_
      rintro e W1 ⟨rfl, hb⟩
      replace HR := Aside0.mk (below_step HR.out hb); clear hb
      clear hcell'
      go_wp2_with (fail)
      refine (aircheckref15_Valid.calls k A c l v0 _ (Kd.C_below HC.out HR.out) HLC.out V2.out).mono ?_
      rintro e W2 ⟨rfl, hd⟩
      have hb := hd.below; clear hd
      replace HR := Aside0.mk (below_step HR.out hb); clear hb
      have q1 : (v0 != v0) = false := bne_self_eq_false _
      go_wp2_with (fail)
      refine (timeline_End.calls k A c l e0 _ (Kd.C_below HC.out HR.out) HLC.out E1.out).mono ?_
      rintro e W3 ⟨rfl, hb⟩
      replace HR := Aside0.mk (below_step HR.out hb); clear hb
      go_wp2_with (fail)
      refine (aircheckref15_End.calls k A c l e0 _ (Kd.C_below HC.out HR.out) HLC.out E2.out).mono ?_
      rintro e W4 ⟨rfl, hd⟩
      have hb := hd.below; clear hd
      replace HR := Aside0.mk (below_step HR.out hb); clear hb
      have q2 : (e0 != e0) = false := bne_self_eq_false _
      have hw : IntKind.i64.wrap (1 + p) = 1 + p := IntWalk.i64_in _ (by have := HP.out; omega)
      go_wp2_with (fail)
      refine (airchecklaw15_pick.calls a0 400 p _ EP.out).mono ?_
      rintro e W5 ⟨rfl, hd⟩
      have hb := hd.below; clear hd
      replace HR := Aside0.mk (below_step HR.out hb); clear hb
      go_wp2_with (fail)
      refine (airchecklaw15_pick.calls a9 (1 + p) tt _ ET.out).mono ?_
      rintro e W6 ⟨rfl, hd⟩
      have hb := hd.below; clear hd
      replace HR := Aside0.mk (below_step HR.out hb); clear hb
      go_wp2
      clear q1 q2 i1 i3 i4 hw
      obtain ⟨T1, hT1⟩ : ∃ T1, W6.alloc (.cells #[.int .i64 a9, .int .i64 tt] 3) = T1 := ⟨_, rfl⟩
      have hb : Below W6.heap.size W6 T1 := by rw [← hT1]; exact below_alloc (Below.refl _ _) _
      have hk : T1.heap[W6.heap.size]? = some (.cells #[.int .i64 a9, .int .i64 tt] 3 (0, 0)) := by rw [← hT1]; exact World.alloc_heap_new _ _
      replace HR := Aside0.mk (below_step HR.out hb); clear hb
      obtain ⟨g1, hg1⟩ : ∃ g1, W6.heap.size = g1 := ⟨_, rfl⟩
      rw [hT1, hg1]
      rw [hg1] at hk
      clear hT1 hg1
      have HX := Aside0.mk (show ∀ i : Nat, i < 2 → ∃ x, T1.cell? ⟨g1, i, none⟩ = some (.int .i64 x) ∧ tm_at k l b x from fun i hi => by
        have h0 := blk_cell hk i
        match i, hi with
        | 0, _ => exact ⟨a9, h0, H3.out a9 (by simp)⟩
        | 1, _ => exact ⟨tt, h0, H3.out tt (by simp)⟩)
      have CL := Aside0.mk (Kd.C_below HC.out HR.out)
      have CB := Aside0.mk (Kd.C_below HBb.out HR.out)
      clear hk H3
      refine tm_seg2 _ _ _ _ _ _ _ _ _ _ _ _ _ _ _ _ _ _ _ _ _ _ _ _ _ _ _ _ _ _ _ _ _ _ _ _ _ _ _ _ _ _ _ _ _ _ _ _ _ _ _ _ _ _ _ _ _ _ _ _ _ _ _ _ _ _ _ _ _ _ _ _ _ _ _ _ _ _ _ _ _ _ _ _ _ _ _ _ _ _ _ _ _ _ _ _ _ _ _ _ _ _ _ _ _ _ _ _ _ _ _ _ _ _ _ _ _ _ _ _ _ _ _ _ _ _ _ _ _ _ _ _ _ _ _ _ _ _ _ _ _ _ _ _ _ _ _ _ _ _ _ _ _ _ _ _ _ _ _ _ _ _ _ _ _ _ _ _ _ _ _ _ _ _ _ _ _ _ _ _ _ _ _ _ _ _ _ _ _ _ _ _ _ _ _ _ _ _ _ _ _ _ _ _ _ _ _ _ _ _ _ _ _ _ _ _ _ _ _ _ _ _ _ _ _ _ _ _ _ _ _ _ _ _ _ _ _ _ _ _ _ _ _ _ _ _ _ _ _ _ _ _ _ _ _ _ _ _ _ _ _ _ _ _ _ _ _ _ _ _ _ _ _ _ _ _ _ _ _ _ _ _ _ _ _ _ _ _ _ _ _ _ _ _ _ _ _ _ _ _ _ _ _ _ _ _ _ _ _ _ _ _ _ _ _ _ _ _ _ _ _ _ _ _ _ _ _ _ _ _ _ _ _ _ _ _ _ _ _ _ _ _ _ _ _ _ _ _ _ _ _ _ _ _ _ _ _ _ _ _ _ _ _ _ _ _ _ _ _ _ _ HLC HCB CL CB HX ?_
      intro u20 u28 u29 u30 u31 u32 u33 u34 u35 u36 u37 u38 u39 u40 u122 u123 u124 u125 u126 u127 u128 u129 u130 u131 u132 u133 u134 u135 u136 u137 u138 u139 u140 u141 u142 u143 u144 u145 u146 u147 u148 u149 u150 u151 u152 u153 u154 u155 u156 u157 u158 u159 u160 u161 u162 u163 u164 u165 u166 u167 u168 u169 u170 u171 u172 u173 u174 u175 u176 u177 u178 u179 u180 u181 u182 u183 u184 u185 u186 u187 u188 u189 u190 u191 u192 u193 u194 w' hb
      replace HR := Aside0.mk (below_step HR.out hb); clear hb
      clear CL CB HX
      go_upto_region 24 with (fail)
      have y0 : w'.cell? ⟨gb, 0, none⟩ = some (.int .i64 a8_0) := (blk_cell (blk_below BK.out HR.out) 0).trans rfl
      have y1 : w'.cell? ⟨gb, 1, none⟩ = some (.int .i64 a8_1) := (blk_cell (blk_below BK.out HR.out) 1).trans rfl
      have y2 : w'.cell? ⟨gb, 2, none⟩ = some (.int .i64 a8_2) := (blk_cell (blk_below BK.out HR.out) 2).trans rfl
      obtain ⟨_, e, z0, z1, z2⟩ := at_T25 (Kd.C_below HI.out HR.out) 0 (by omega) (by simp only [List.length_cons]; omega)
      cases e
      have i1 : (0 : Int) < ((ins.length + 1 : Nat) : Int) := by omega
      rw [show ad.add (Int.toNat 0 * 3) = ad from by simp [Addr.add], show rd_T25 (s2 :: ins) 0 = s2 from rfl] at z0 z1 z2
      go_region_held3 (fun W => W.cell? ⟨gb, 0, none⟩ = some (.int .i64 a8_0) ∧ W.cell? ⟨gb, 1, none⟩ = some (.int .i64 a8_1) ∧ W.cell? ⟨gb, 2, none⟩ = some (.int .i64 a8_2) ∧ W.cell? ad = some (.int .i64 s2.f0) ∧ W.cell? ⟨ad.block, ad.off + 1, none⟩ = some (.int .i64 s2.f1) ∧ W.cell? ⟨ad.block, ad.off + 2, none⟩ = some (.int .i64 s2.f2) ∧ Aside0 (Below w'.heap.size w' W)) (first | (refine tm_S6 ?_ y0 y1 y2 z0 z1 z2; (repeat (first | exact Below.refl _ _ | exact Aside0.out (by assumption) | refine below_alloc ?_ _ | refine below_drew ?_ | refine pw_below_drewN ?_ _)))) (first | fail)
      go_wp2
      obtain ⟨g2, hg2⟩ : ∃ g2, w'.heap.size = g2 := ⟨_, rfl⟩
      obtain ⟨T2, hT2⟩ : ∃ T2, (w'.alloc (.cells #[.int .i64 a8_0, .int .i64 a8_1, .int .i64 a8_2, .int .i64 s2.f0, .int .i64 s2.f1, .int .i64 s2.f2] 25)).drew = T2 := ⟨_, rfl⟩
      have hb : Below w'.heap.size w' T2 := by rw [← hT2]; exact below_drew (below_alloc (Below.refl _ _) _)
      have hk : T2.heap[g2]? = some (.cells #[.int .i64 a8_0, .int .i64 a8_1, .int .i64 a8_2, .int .i64 s2.f0, .int .i64 s2.f1, .int .i64 s2.f2] 25 (0, 0)) := by rw [← hT2, ← hg2]; exact World.alloc_heap_new _ _
      replace HR := Aside0.mk (below_step HR.out hb); clear hb
      rw [hT2, hg2]
      clear hT2 hg2
      have HX := Aside0.mk (show ∀ i : Nat, i < 2 → ∃ x : S25, T2.cell? ⟨g2, i * 3, none⟩ = some (.int .i64 x.f0) ∧ T2.cell? ⟨g2, i * 3 + 1, none⟩ = some (.int .i64 x.f1) ∧ T2.cell? ⟨g2, i * 3 + 2, none⟩ = some (.int .i64 x.f2) ∧ tm_put k l x from fun i hi => by
        have h0 := blk_cell hk (i * 3)
        have h1 := blk_cell hk (i * 3 + 1)
        have h2 := blk_cell hk (i * 3 + 2)
        match i, hi with
        | 0, _ => exact ⟨⟨a8_0, a8_1, a8_2⟩, h0, h1, h2, H4.out _ (by simp)⟩
        | 1, _ => exact ⟨s2, h0, h1, h2, H4.out _ (by simp)⟩)
      have CL := Aside0.mk (Kd.C_below HC.out HR.out)
      clear hk H4 y0 y1 y2 z0 z1 z2 i1
      refine tm_seg4 _ _ _ _ _ _ _ _ _ _ _ _ _ _ _ _ _ _ _ _ _ _ _ _ _ _ _ _ _ _ _ _ _ _ _ _ _ _ _ _ _ _ _ _ _ _ _ _ _ _ _ _ _ _ _ _ _ _ _ _ _ _ _ _ _ _ _ _ _ _ _ _ _ _ _ _ _ _ _ _ _ _ _ _ _ _ _ _ _ _ _ _ _ _ _ _ _ _ _ _ _ _ _ _ _ _ _ _ _ _ _ _ _ _ _ _ _ _ _ _ _ _ _ _ _ _ _ _ _ _ _ _ _ _ _ _ _ _ _ _ _ _ _ _ _ _ _ _ _ _ _ _ _ _ _ _ _ _ _ _ _ _ _ _ _ _ _ _ _ _ _ _ _ _ _ _ _ _ _ _ _ _ _ _ _ _ _ _ _ _ _ _ _ _ _ _ _ _ _ _ _ _ _ _ _ _ _ _ _ _ _ _ _ _ _ _ _ _ _ _ _ _ _ _ _ _ _ _ _ _ _ _ _ _ _ _ _ _ _ _ _ _ _ _ _ _ _ _ _ _ _ _ _ _ _ _ _ _ _ _ _ _ _ _ _ _ _ _ _ _ _ _ _ _ _ _ _ _ _ _ _ _ _ _ _ _ _ _ _ _ _ _ _ _ _ _ _ _ _ _ _ _ _ _ _ _ _ _ _ _ _ _ _ _ _ _ _ _ _ _ _ _ _ _ _ _ _ _ _ _ _ _ _ _ _ _ _ _ _ _ _ _ _ _ _ _ _ _ _ _ _ _ _ _ _ _ _ _ _ _ _ _ _ _ _ _ _ _ _ _ _ _ HLC CL HX ?_
      intro u20 u42 u43 u44 u45 u46 u47 u48 u49 u50 u51 u52 u53 u54 u201 u202 u203 u204 u205 u206 u207 u208 u209 u210 u211 u212 u213 u214 u215 u216 u217 u218 u219 u220 u221 u222 u223 u224 u225 u226 u227 u228 u229 u230 u231 u232 u233 u234 u235 u236 u237 u238 u239 u240 u241 u242 u243 u244 u245 u246 u247 u248 u249 u250 u251 u252 u253 u254 u255 u256 u257 u258 u259 u260 u261 u262 u263 u264 u265 u266 u267 u268 u269 u270 u271 u272 u273 u274 u275 u276 u277 u278 u279 u280 u281 u282 w' hb
      replace HR := Aside0.mk (below_step HR.out hb); clear hb
      clear CL HX
      go_upto_region 36 with (fail)
      go_wp2_with (fail)
      refine (airchecklaw15_few.calls (fun k => k < w'.heap.size) A4 c4 l4 fw _ (Kd.V_mk HC4.out (Kd.C_F k25_heap (Kd.C_below HR4.out (below_step HB.out HR.out)))) EF.out).mono ?_
      rintro e W9 ⟨v, rfl, hv, hb⟩
      obtain ⟨Ag, cg, rfl⟩ := Kd.V_slice hv
      obtain ⟨-, hcg, hCg⟩ := Kd.V_reads' hv
      replace HR := Aside0.mk (below_step HR.out hb); clear hb
      have HG := Aside0.mk hCg; have HCG := Aside0.mk hcg; clear hCg hcg hv
      go_wp2
      obtain ⟨g3, hg3⟩ : ∃ g3, W9.heap.size = g3 := ⟨_, rfl⟩
      obtain ⟨T3, hT3⟩ : ∃ T3, W9.alloc (.cells #[.slice Aa a.length ca, .slice Ab b.length cb, .slice Ag fw.length cg] 23) = T3 := ⟨_, rfl⟩
      have hb : Below W9.heap.size W9 T3 := by rw [← hT3]; exact below_alloc (Below.refl _ _) _
      have hk : T3.heap[g3]? = some (.cells #[.slice Aa a.length ca, .slice Ab b.length cb, .slice Ag fw.length cg] 23 (0, 0)) := by rw [← hT3, ← hg3]; exact World.alloc_heap_new _ _
      replace HR := Aside0.mk (below_step HR.out hb); replace HG := Aside0.mk (Kd.C_below HG.out hb); clear hb
      rw [hT3, hg3]
      clear hT3 hg3
      have HX := Aside0.mk (show ∀ i : Nat, i < 3 → ∃ (A' : Option Addr) (c' : Nat) (l' : List S25), T3.cell? ⟨g3, i, none⟩ = some (.slice A' l'.length c') ∧ l'.length ≤ c' ∧ Kd.C k25 T3 A' l'.length l' ∧ tm_sp k (timeline_Diff.f l l') (aircheckref15_Diff.f k l l') from fun i hi => by
        have h0 := blk_cell hk i
        match i, hi with
        | 0, _ => exact ⟨Aa, ca, a, h0, HCA.out, Kd.C_below HA.out HR.out, H5.out _ (by simp)⟩
        | 1, _ => exact ⟨Ab, cb, b, h0, HCB.out, Kd.C_below HBb.out HR.out, H5.out _ (by simp)⟩
        | 2, _ => exact ⟨Ag, cg, fw, h0, HCG.out, HG.out, H5.out _ (by simp)⟩)
      have CL := Aside0.mk (Kd.C_below HC.out HR.out)
      clear hk H5 HG HCG
      refine tm_seg6 _ _ _ _ _ _ _ _ _ _ _ _ _ _ _ _ _ _ _ _ _ _ _ _ _ _ _ _ _ _ _ _ _ _ _ _ _ _ _ _ _ _ _ _ _ _ _ _ _ _ _ _ _ _ _ _ _ _ _ _ _ _ _ _ _ _ _ _ _ _ _ _ _ _ _ _ _ _ _ _ _ _ _ _ _ _ _ _ _ _ _ _ _ _ _ _ _ _ _ _ _ _ _ _ _ _ _ _ _ _ _ _ _ _ _ _ _ _ _ _ _ _ _ _ _ _ _ _ _ _ _ _ _ _ _ _ _ _ _ _ _ _ _ _ _ _ _ _ _ _ _ _ _ _ _ _ _ _ _ _ _ _ _ _ _ _ _ _ _ _ _ _ _ _ _ _ _ _ _ _ _ _ _ _ _ _ _ _ _ _ _ _ _ _ _ _ _ _ _ _ _ _ _ _ _ _ _ _ _ _ _ _ _ _ _ _ _ _ _ _ _ _ _ _ _ _ _ _ _ _ _ _ _ _ _ _ _ _ _ _ _ _ _ _ _ _ _ _ _ _ _ _ _ _ _ _ _ _ _ _ _ _ _ _ _ _ _ _ _ _ _ _ _ _ _ _ _ _ _ _ _ _ _ _ _ _ _ _ _ _ _ _ _ _ _ _ _ _ _ _ _ _ _ _ _ _ _ _ _ _ _ _ _ _ _ _ _ _ _ _ _ _ _ _ _ _ _ _ _ _ _ _ _ _ _ _ _ _ _ _ _ _ _ _ _ _ _ _ _ _ _ _ _ _ _ _ _ _ _ _ _ _ _ _ _ _ _ _ _ _ _ _ HLC CL HX ?_
      intro u20 u56 u57 u58 u59 u60 u289 u290 u291 u292 u293 u294 u295 u296 u297 u298 u299 u300 u301 u302 u303 u304 u305 u306 u307 u308 u309 u310 u311 u312 u313 u314 w' hb
      replace HR := Aside0.mk (below_step HR.out hb); clear hb
      go_wp2
      go_roundw
      case rel => exact ⟨j + 1, by omega, by go_num, HR⟩
      case measure => simp [intOf]; omega
    · obtain rfl : j = 3 := by omega
      clear hj hlt HL
      have hb := HR.out; clear HR
      go_wp2
      exact hb
def tm_rg (n : Nat) : Code → Option Code
  | .region i o d => if i = n then some (.region i o d) else none
  | .seq a b => match tm_rg n a with
    | some c => some c
    | none => tm_rg n b
  | .block _ b => tm_rg n b
  | .loop b => tm_rg n b
  | .scope b => tm_rg n b
  | .cond _ a b => match tm_rg n a with
    | some c => some c
    | none => tm_rg n b
  | _ => none
noncomputable def tm_q47 : Code := ((Try.f3.body.bind (tm_rg 47)).getD .skip)
set_option maxHeartbeats 400000000 in
set_option maxRecDepth 1000000 in
theorem tm_reg47 {k gb : Nat} {a0 p o e2 a8_0 a8_1 a8_2 : Int} {l4 fw m2 : List S25} {A4 : Option Addr} {c4 : Nat} {w V : World} (c1 c2 c3 c5 c6 c7 c8 c9 c10 c11 c12 c13 c14 c15 c16 c17 c19 c20 c21 c22 c23 c24 c25 c26 c27 c28 c29 c30 c31 c32 c33 c34 c35 c36 c37 c38 c39 c40 c41 c42 c43 c44 c45 c46 c47 c48 c49 c50 c51 c52 c53 c54 c55 c56 c57 c58 c59 c60 c61 c62 c63 c64 c65 c66 c67 c68 c69 c70 c71 c72 c73 c74 c75 c76 c77 c78 c79 c80 c81 c82 c83 c84 c85 c86 c87 c88 c89 c90 c91 c92 c93 c94 c95 c96 c97 c98 c99 c100 c101 c102 c103 c104 c105 c106 c107 c108 c109 c110 c111 c112 c113 c114 c115 c116 c117 c118 c119 c120 c121 c122 c123 c124 c125 c126 c127 c128 c129 c130 c131 c132 c133 c134 c135 c136 c137 c138 c139 c140 c141 c142 c143 c144 c145 c146 c147 c148 c149 c150 c151 c152 c153 c154 c155 c156 c157 c158 c159 c160 c161 c162 c163 c164 c165 c166 c167 c168 c169 c170 c171 c172 c173 c174 c175 c176 c177 c178 c179 c180 c181 c182 c183 c184 c185 c186 c187 c188 c189 c190 c191 c192 c193 c194 c195 c196 c197 c198 c199 c200 c201 c202 c203 c204 c205 c206 c207 c208 c209 c210 c211 c212 c213 c214 c215 c216 c217 c218 c219 c220 c221 c222 c223 c224 c225 c226 c227 c228 c229 c230 c231 c232 c233 c234 c235 c236 c237 c238 c239 c240 c241 c242 c243 c244 c245 c246 c247 c248 c249 c250 c251 c252 c253 c254 c255 c256 c257 c258 c259 c260 c261 c262 c263 c264 c265 c266 c267 c268 c269 c270 c271 c272 c273 c274 c275 c276 c277 c278 c279 c280 c281 c282 c283 c284 c285 c286 c287 c288 c289 c290 c291 c292 c293 c294 c295 c296 c297 c298 c299 c300 c301 c302 c303 c304 c305 c306 c307 c308 c309 c310 c311 c312 c313 c314 c315 c316 c317 c318 c319 c320 c321 c322 c323 c324 c325 c326 c327 c328 c329 c330 c331 c332 c333 c334 c335 c336 c337 c338 c339 c340 c341 c342 c343 c344 c345 c346 c347 c348 c349 c350 c351 c352 c353 c354 c355 c356 c357 c358 c359 c360 c361 c362 c363 c364 c365 c366 c367 c368 c369 c370 c371 c372 c373 c374 : Value) (Q : Exit → Act → World → Prop) (EP : Aside0 (airchecklaw15_pick.f a0 400 = some p)) (HP : Aside0 (0 ≤ p ∧ p < 400)) (EO : Aside0 (airchecklaw15_pick.f a8_2 9 = some o)) (EF : Aside0 (airchecklaw15_few.f l4 = some fw)) (HR4 : Aside0 (Kd.C k25 w A4 l4.length l4)) (HC4 : Aside0 (l4.length ≤ c4)) (HB : Aside0 (Below w.heap.size w V)) (BK : Aside0 (V.heap[gb]? = some (.cells #[.int .i64 a8_0, .int .i64 a8_1, .int .i64 a8_2] 25 (0, 0)))) (EE : Aside0 (timeline_Paint.f k (1 + p) o fw = some (m2, e2))) (hx : ∀ (u330 u331 u332 u333 u334 u335 u336 u337 u338 u339 u340 u341 : Value) (D : Option Addr) (d : Nat) (w' : World), m2.length ≤ d → Kd.C k25 w' D m2.length m2 → Below V.heap.size V w' → Q .normal ⟨List.toArray (.int .i64 a0 :: c1 :: c2 :: c3 :: .slice A4 l4.length c4 :: c5 :: c6 :: c7 :: c8 :: c9 :: c10 :: c11 :: c12 :: c13 :: c14 :: c15 :: c16 :: c17 :: .pointer (some ⟨gb, 0, none⟩) :: c19 :: c20 :: c21 :: c22 :: c23 :: c24 :: c25 :: c26 :: c27 :: c28 :: c29 :: c30 :: c31 :: c32 :: c33 :: c34 :: c35 :: c36 :: c37 :: c38 :: c39 :: c40 :: c41 :: c42 :: c43 :: c44 :: c45 :: c46 :: c47 :: c48 :: c49 :: c50 :: c51 :: c52 :: c53 :: c54 :: c55 :: c56 :: c57 :: c58 :: c59 :: c60 :: c61 :: c62 :: c63 :: c64 :: .slice D m2.length d :: .int .i64 e2 :: c67 :: c68 :: c69 :: c70 :: c71 :: c72 :: c73 :: c74 :: c75 :: c76 :: c77 :: c78 :: c79 :: c80 :: c81 :: c82 :: c83 :: c84 :: c85 :: c86 :: c87 :: c88 :: c89 :: c90 :: c91 :: c92 :: c93 :: c94 :: c95 :: c96 :: c97 :: c98 :: c99 :: c100 :: c101 :: c102 :: c103 :: c104 :: c105 :: c106 :: c107 :: c108 :: c109 :: c110 :: c111 :: c112 :: c113 :: c114 :: c115 :: c116 :: c117 :: c118 :: c119 :: c120 :: c121 :: c122 :: c123 :: c124 :: c125 :: c126 :: c127 :: c128 :: c129 :: c130 :: c131 :: c132 :: c133 :: c134 :: c135 :: c136 :: c137 :: c138 :: c139 :: c140 :: c141 :: c142 :: c143 :: c144 :: c145 :: c146 :: c147 :: c148 :: c149 :: c150 :: c151 :: c152 :: c153 :: c154 :: c155 :: c156 :: c157 :: c158 :: c159 :: c160 :: c161 :: c162 :: c163 :: c164 :: c165 :: c166 :: c167 :: c168 :: c169 :: c170 :: c171 :: c172 :: c173 :: c174 :: c175 :: c176 :: c177 :: c178 :: c179 :: c180 :: c181 :: c182 :: c183 :: c184 :: c185 :: c186 :: c187 :: c188 :: c189 :: c190 :: c191 :: c192 :: c193 :: c194 :: c195 :: c196 :: c197 :: c198 :: c199 :: c200 :: c201 :: c202 :: c203 :: c204 :: c205 :: c206 :: c207 :: c208 :: c209 :: c210 :: c211 :: c212 :: c213 :: c214 :: c215 :: c216 :: c217 :: c218 :: c219 :: c220 :: c221 :: c222 :: c223 :: c224 :: c225 :: c226 :: c227 :: c228 :: c229 :: c230 :: c231 :: c232 :: c233 :: c234 :: c235 :: c236 :: c237 :: c238 :: c239 :: c240 :: c241 :: c242 :: c243 :: c244 :: c245 :: c246 :: c247 :: c248 :: c249 :: c250 :: c251 :: c252 :: c253 :: c254 :: c255 :: c256 :: c257 :: c258 :: c259 :: c260 :: c261 :: c262 :: c263 :: c264 :: c265 :: c266 :: c267 :: c268 :: c269 :: c270 :: c271 :: c272 :: c273 :: c274 :: c275 :: c276 :: c277 :: c278 :: c279 :: c280 :: c281 :: c282 :: c283 :: c284 :: c285 :: c286 :: c287 :: c288 :: c289 :: c290 :: c291 :: c292 :: c293 :: c294 :: c295 :: c296 :: c297 :: c298 :: c299 :: c300 :: c301 :: c302 :: c303 :: c304 :: c305 :: c306 :: c307 :: c308 :: c309 :: c310 :: c311 :: c312 :: c313 :: c314 :: c315 :: c316 :: c317 :: c318 :: c319 :: c320 :: c321 :: c322 :: c323 :: c324 :: c325 :: c326 :: c327 :: c328 :: c329 :: u330 :: u331 :: u332 :: u333 :: u334 :: u335 :: u336 :: u337 :: u338 :: u339 :: u340 :: u341 :: c342 :: c343 :: c344 :: c345 :: c346 :: c347 :: c348 :: c349 :: c350 :: c351 :: c352 :: c353 :: c354 :: c355 :: c356 :: c357 :: c358 :: c359 :: c360 :: c361 :: c362 :: c363 :: c364 :: c365 :: c366 :: c367 :: c368 :: c369 :: c370 :: c371 :: c372 :: c373 :: c374 :: []), []⟩ w') :
    Code.wp Try.prog tm_q47 Q ⟨List.toArray (.int .i64 a0 :: c1 :: c2 :: c3 :: .slice A4 l4.length c4 :: c5 :: c6 :: c7 :: c8 :: c9 :: c10 :: c11 :: c12 :: c13 :: c14 :: c15 :: c16 :: c17 :: .pointer (some ⟨gb, 0, none⟩) :: c19 :: c20 :: c21 :: c22 :: c23 :: c24 :: c25 :: c26 :: c27 :: c28 :: c29 :: c30 :: c31 :: c32 :: c33 :: c34 :: c35 :: c36 :: c37 :: c38 :: c39 :: c40 :: c41 :: c42 :: c43 :: c44 :: c45 :: c46 :: c47 :: c48 :: c49 :: c50 :: c51 :: c52 :: c53 :: c54 :: c55 :: c56 :: c57 :: c58 :: c59 :: c60 :: c61 :: c62 :: c63 :: c64 :: c65 :: c66 :: c67 :: c68 :: c69 :: c70 :: c71 :: c72 :: c73 :: c74 :: c75 :: c76 :: c77 :: c78 :: c79 :: c80 :: c81 :: c82 :: c83 :: c84 :: c85 :: c86 :: c87 :: c88 :: c89 :: c90 :: c91 :: c92 :: c93 :: c94 :: c95 :: c96 :: c97 :: c98 :: c99 :: c100 :: c101 :: c102 :: c103 :: c104 :: c105 :: c106 :: c107 :: c108 :: c109 :: c110 :: c111 :: c112 :: c113 :: c114 :: c115 :: c116 :: c117 :: c118 :: c119 :: c120 :: c121 :: c122 :: c123 :: c124 :: c125 :: c126 :: c127 :: c128 :: c129 :: c130 :: c131 :: c132 :: c133 :: c134 :: c135 :: c136 :: c137 :: c138 :: c139 :: c140 :: c141 :: c142 :: c143 :: c144 :: c145 :: c146 :: c147 :: c148 :: c149 :: c150 :: c151 :: c152 :: c153 :: c154 :: c155 :: c156 :: c157 :: c158 :: c159 :: c160 :: c161 :: c162 :: c163 :: c164 :: c165 :: c166 :: c167 :: c168 :: c169 :: c170 :: c171 :: c172 :: c173 :: c174 :: c175 :: c176 :: c177 :: c178 :: c179 :: c180 :: c181 :: c182 :: c183 :: c184 :: c185 :: c186 :: c187 :: c188 :: c189 :: c190 :: c191 :: c192 :: c193 :: c194 :: c195 :: c196 :: c197 :: c198 :: c199 :: c200 :: c201 :: c202 :: c203 :: c204 :: c205 :: c206 :: c207 :: c208 :: c209 :: c210 :: c211 :: c212 :: c213 :: c214 :: c215 :: c216 :: c217 :: c218 :: c219 :: c220 :: c221 :: c222 :: c223 :: c224 :: c225 :: c226 :: c227 :: c228 :: c229 :: c230 :: c231 :: c232 :: c233 :: c234 :: c235 :: c236 :: c237 :: c238 :: c239 :: c240 :: c241 :: c242 :: c243 :: c244 :: c245 :: c246 :: c247 :: c248 :: c249 :: c250 :: c251 :: c252 :: c253 :: c254 :: c255 :: c256 :: c257 :: c258 :: c259 :: c260 :: c261 :: c262 :: c263 :: c264 :: c265 :: c266 :: c267 :: c268 :: c269 :: c270 :: c271 :: c272 :: c273 :: c274 :: c275 :: c276 :: c277 :: c278 :: c279 :: c280 :: c281 :: c282 :: c283 :: c284 :: c285 :: c286 :: c287 :: c288 :: c289 :: c290 :: c291 :: c292 :: c293 :: c294 :: c295 :: c296 :: c297 :: c298 :: c299 :: c300 :: c301 :: c302 :: c303 :: c304 :: c305 :: c306 :: c307 :: c308 :: c309 :: c310 :: c311 :: c312 :: c313 :: c314 :: c315 :: c316 :: c317 :: c318 :: c319 :: c320 :: c321 :: c322 :: c323 :: c324 :: c325 :: c326 :: c327 :: c328 :: c329 :: c330 :: c331 :: c332 :: c333 :: c334 :: c335 :: c336 :: c337 :: c338 :: c339 :: c340 :: c341 :: c342 :: c343 :: c344 :: c345 :: c346 :: c347 :: c348 :: c349 :: c350 :: c351 :: c352 :: c353 :: c354 :: c355 :: c356 :: c357 :: c358 :: c359 :: c360 :: c361 :: c362 :: c363 :: c364 :: c365 :: c366 :: c367 :: c368 :: c369 :: c370 :: c371 :: c372 :: c373 :: c374 :: []), []⟩ V := by
  conv => arg 2; whnf
  have hw : IntKind.i64.wrap (1 + p) = 1 + p := IntWalk.i64_in _ (by have := HP.out; omega)
  have y2 : V.cell? ⟨gb, 2, none⟩ = some (.int .i64 a8_2) := (blk_cell BK.out 2).trans rfl
  have hfew := fun W (hW : Below w.heap.size w W) => airchecklaw15_few.calls (fun k => k < W.heap.size) A4 c4 l4 fw W (Kd.V_mk HC4.out (Kd.C_F k25_heap (Kd.C_below HR4.out hW))) EF.out
  have hpaint := fun W A c (hC : Kd.C k25 W A fw.length fw) (hc : fw.length ≤ c) => timeline_Paint.calls k (1 + p) o A c fw m2 e2 W hC hc EE.out
  go_region_held3 (fun W => W.cell? ⟨gb, 2, none⟩ = some (.int .i64 a8_2) ∧ Aside0 (Below V.heap.size V W)) (first | (refine tm_S1 ?_ y2; (repeat (first | exact Below.refl _ _ | exact Aside0.out (by assumption) | refine below_alloc ?_ _ | refine below_drew ?_ | refine pw_below_drewN ?_ _)))) (first | (go_at_call 13; with_reducible refine (airchecklaw15_pick.calls a0 400 p _ EP.out).mono ?_; rintro e W5 ⟨rfl, nd, rfl⟩) | (go_at_call 13; with_reducible refine (airchecklaw15_pick.calls a8_2 9 o _ EO.out).mono ?_; rintro e W5 ⟨rfl, nd', rfl⟩) | (go_at_call 15; with_reducible refine (hfew _ ?h1).mono ?_; (case h1 => exact below_step HB.out (by (repeat (first | exact Below.refl _ _ | exact Aside0.out (by assumption) | refine below_alloc ?_ _ | refine below_drew ?_ | refine pw_below_drewN ?_ _)))); rintro e W7 ⟨v, rfl, hv, hb⟩; obtain ⟨Ag, cg, rfl⟩ := Kd.V_slice hv; obtain ⟨-, hcg, hCg⟩ := Kd.V_reads' hv; have HS := Aside0.mk (show Below V.heap.size V W7 from below_step (by (repeat (first | exact Below.refl _ _ | exact Aside0.out (by assumption) | refine below_alloc ?_ _ | refine below_drew ?_ | refine pw_below_drewN ?_ _))) hb); have HG := Aside0.mk hCg; have HCG := Aside0.mk hcg; clear hb hv hCg hcg) | (go_at_call 36; with_reducible refine (hpaint _ Ag cg ?h1 HCG.out).mono ?_; (case h1 => exact Kd.C_below HG.out (by (repeat (first | exact Below.refl _ _ | exact Aside0.out (by assumption) | refine below_alloc ?_ _ | refine below_drew ?_ | refine pw_below_drewN ?_ _)))); rintro e W8 ⟨v, rfl, hr, hb⟩; have HS8 := Aside0.mk (show Below V.heap.size V W8 from below_step (by (repeat (first | exact Below.refl _ _ | exact Aside0.out (by assumption) | refine below_alloc ?_ _ | refine below_drew ?_ | refine pw_below_drewN ?_ _))) hb)))
  all_goals
    obtain ⟨D, d, rfl, hd, hD⟩ := Kd.R_reads hr
    exact hx _ _ _ _ _ _ _ _ _ _ _ _ D d _ hd hD HS8.out
noncomputable def tm_q48 : Code := ((Try.f3.body.bind (tm_rg 48)).getD .skip)
set_option maxHeartbeats 400000000 in
set_option maxRecDepth 1000000 in
theorem tm_reg48 {k gb : Nat} {a0 p o e2 a8_0 a8_1 a8_2 : Int} {l4 fw m2 : List S25} {A4 : Option Addr} {c4 : Nat} {w V : World} (c1 c2 c3 c5 c6 c7 c8 c9 c10 c11 c12 c13 c14 c15 c16 c17 c19 c20 c21 c22 c23 c24 c25 c26 c27 c28 c29 c30 c31 c32 c33 c34 c35 c36 c37 c38 c39 c40 c41 c42 c43 c44 c45 c46 c47 c48 c49 c50 c51 c52 c53 c54 c55 c56 c57 c58 c59 c60 c61 c62 c63 c64 c65 c66 c67 c68 c69 c70 c71 c72 c73 c74 c75 c76 c77 c78 c79 c80 c81 c82 c83 c84 c85 c86 c87 c88 c89 c90 c91 c92 c93 c94 c95 c96 c97 c98 c99 c100 c101 c102 c103 c104 c105 c106 c107 c108 c109 c110 c111 c112 c113 c114 c115 c116 c117 c118 c119 c120 c121 c122 c123 c124 c125 c126 c127 c128 c129 c130 c131 c132 c133 c134 c135 c136 c137 c138 c139 c140 c141 c142 c143 c144 c145 c146 c147 c148 c149 c150 c151 c152 c153 c154 c155 c156 c157 c158 c159 c160 c161 c162 c163 c164 c165 c166 c167 c168 c169 c170 c171 c172 c173 c174 c175 c176 c177 c178 c179 c180 c181 c182 c183 c184 c185 c186 c187 c188 c189 c190 c191 c192 c193 c194 c195 c196 c197 c198 c199 c200 c201 c202 c203 c204 c205 c206 c207 c208 c209 c210 c211 c212 c213 c214 c215 c216 c217 c218 c219 c220 c221 c222 c223 c224 c225 c226 c227 c228 c229 c230 c231 c232 c233 c234 c235 c236 c237 c238 c239 c240 c241 c242 c243 c244 c245 c246 c247 c248 c249 c250 c251 c252 c253 c254 c255 c256 c257 c258 c259 c260 c261 c262 c263 c264 c265 c266 c267 c268 c269 c270 c271 c272 c273 c274 c275 c276 c277 c278 c279 c280 c281 c282 c283 c284 c285 c286 c287 c288 c289 c290 c291 c292 c293 c294 c295 c296 c297 c298 c299 c300 c301 c302 c303 c304 c305 c306 c307 c308 c309 c310 c311 c312 c313 c314 c315 c316 c317 c318 c319 c320 c321 c322 c323 c324 c325 c326 c327 c328 c329 c330 c331 c332 c333 c334 c335 c336 c337 c338 c339 c340 c341 c342 c343 c344 c345 c346 c347 c348 c349 c350 c351 c352 c353 c354 c355 c356 c357 c358 c359 c360 c361 c362 c363 c364 c365 c366 c367 c368 c369 c370 c371 c372 c373 c374 : Value) (Q : Exit → Act → World → Prop) (EP : Aside0 (airchecklaw15_pick.f a0 400 = some p)) (HP : Aside0 (0 ≤ p ∧ p < 400)) (EO : Aside0 (airchecklaw15_pick.f a8_2 9 = some o)) (EF : Aside0 (airchecklaw15_few.f l4 = some fw)) (HR4 : Aside0 (Kd.C k25 w A4 l4.length l4)) (HC4 : Aside0 (l4.length ≤ c4)) (HB : Aside0 (Below w.heap.size w V)) (BK : Aside0 (V.heap[gb]? = some (.cells #[.int .i64 a8_0, .int .i64 a8_1, .int .i64 a8_2] 25 (0, 0)))) (EE : Aside0 (aircheckref15_Paint.f k (1 + p) o fw = some (m2, e2))) (hx : ∀ (u342 u343 u344 u345 u346 u347 u348 u349 u350 u351 u352 u353 : Value) (D : Option Addr) (d : Nat) (w' : World), m2.length ≤ d → Kd.C k25 w' D m2.length m2 → Below V.heap.size V w' → Q .normal ⟨List.toArray (.int .i64 a0 :: c1 :: c2 :: c3 :: .slice A4 l4.length c4 :: c5 :: c6 :: c7 :: c8 :: c9 :: c10 :: c11 :: c12 :: c13 :: c14 :: c15 :: c16 :: c17 :: .pointer (some ⟨gb, 0, none⟩) :: c19 :: c20 :: c21 :: c22 :: c23 :: c24 :: c25 :: c26 :: c27 :: c28 :: c29 :: c30 :: c31 :: c32 :: c33 :: c34 :: c35 :: c36 :: c37 :: c38 :: c39 :: c40 :: c41 :: c42 :: c43 :: c44 :: c45 :: c46 :: c47 :: c48 :: c49 :: c50 :: c51 :: c52 :: c53 :: c54 :: c55 :: c56 :: c57 :: c58 :: c59 :: c60 :: c61 :: c62 :: c63 :: c64 :: c65 :: c66 :: .slice D m2.length d :: .int .i64 e2 :: c69 :: c70 :: c71 :: c72 :: c73 :: c74 :: c75 :: c76 :: c77 :: c78 :: c79 :: c80 :: c81 :: c82 :: c83 :: c84 :: c85 :: c86 :: c87 :: c88 :: c89 :: c90 :: c91 :: c92 :: c93 :: c94 :: c95 :: c96 :: c97 :: c98 :: c99 :: c100 :: c101 :: c102 :: c103 :: c104 :: c105 :: c106 :: c107 :: c108 :: c109 :: c110 :: c111 :: c112 :: c113 :: c114 :: c115 :: c116 :: c117 :: c118 :: c119 :: c120 :: c121 :: c122 :: c123 :: c124 :: c125 :: c126 :: c127 :: c128 :: c129 :: c130 :: c131 :: c132 :: c133 :: c134 :: c135 :: c136 :: c137 :: c138 :: c139 :: c140 :: c141 :: c142 :: c143 :: c144 :: c145 :: c146 :: c147 :: c148 :: c149 :: c150 :: c151 :: c152 :: c153 :: c154 :: c155 :: c156 :: c157 :: c158 :: c159 :: c160 :: c161 :: c162 :: c163 :: c164 :: c165 :: c166 :: c167 :: c168 :: c169 :: c170 :: c171 :: c172 :: c173 :: c174 :: c175 :: c176 :: c177 :: c178 :: c179 :: c180 :: c181 :: c182 :: c183 :: c184 :: c185 :: c186 :: c187 :: c188 :: c189 :: c190 :: c191 :: c192 :: c193 :: c194 :: c195 :: c196 :: c197 :: c198 :: c199 :: c200 :: c201 :: c202 :: c203 :: c204 :: c205 :: c206 :: c207 :: c208 :: c209 :: c210 :: c211 :: c212 :: c213 :: c214 :: c215 :: c216 :: c217 :: c218 :: c219 :: c220 :: c221 :: c222 :: c223 :: c224 :: c225 :: c226 :: c227 :: c228 :: c229 :: c230 :: c231 :: c232 :: c233 :: c234 :: c235 :: c236 :: c237 :: c238 :: c239 :: c240 :: c241 :: c242 :: c243 :: c244 :: c245 :: c246 :: c247 :: c248 :: c249 :: c250 :: c251 :: c252 :: c253 :: c254 :: c255 :: c256 :: c257 :: c258 :: c259 :: c260 :: c261 :: c262 :: c263 :: c264 :: c265 :: c266 :: c267 :: c268 :: c269 :: c270 :: c271 :: c272 :: c273 :: c274 :: c275 :: c276 :: c277 :: c278 :: c279 :: c280 :: c281 :: c282 :: c283 :: c284 :: c285 :: c286 :: c287 :: c288 :: c289 :: c290 :: c291 :: c292 :: c293 :: c294 :: c295 :: c296 :: c297 :: c298 :: c299 :: c300 :: c301 :: c302 :: c303 :: c304 :: c305 :: c306 :: c307 :: c308 :: c309 :: c310 :: c311 :: c312 :: c313 :: c314 :: c315 :: c316 :: c317 :: c318 :: c319 :: c320 :: c321 :: c322 :: c323 :: c324 :: c325 :: c326 :: c327 :: c328 :: c329 :: c330 :: c331 :: c332 :: c333 :: c334 :: c335 :: c336 :: c337 :: c338 :: c339 :: c340 :: c341 :: u342 :: u343 :: u344 :: u345 :: u346 :: u347 :: u348 :: u349 :: u350 :: u351 :: u352 :: u353 :: c354 :: c355 :: c356 :: c357 :: c358 :: c359 :: c360 :: c361 :: c362 :: c363 :: c364 :: c365 :: c366 :: c367 :: c368 :: c369 :: c370 :: c371 :: c372 :: c373 :: c374 :: []), []⟩ w') :
    Code.wp Try.prog tm_q48 Q ⟨List.toArray (.int .i64 a0 :: c1 :: c2 :: c3 :: .slice A4 l4.length c4 :: c5 :: c6 :: c7 :: c8 :: c9 :: c10 :: c11 :: c12 :: c13 :: c14 :: c15 :: c16 :: c17 :: .pointer (some ⟨gb, 0, none⟩) :: c19 :: c20 :: c21 :: c22 :: c23 :: c24 :: c25 :: c26 :: c27 :: c28 :: c29 :: c30 :: c31 :: c32 :: c33 :: c34 :: c35 :: c36 :: c37 :: c38 :: c39 :: c40 :: c41 :: c42 :: c43 :: c44 :: c45 :: c46 :: c47 :: c48 :: c49 :: c50 :: c51 :: c52 :: c53 :: c54 :: c55 :: c56 :: c57 :: c58 :: c59 :: c60 :: c61 :: c62 :: c63 :: c64 :: c65 :: c66 :: c67 :: c68 :: c69 :: c70 :: c71 :: c72 :: c73 :: c74 :: c75 :: c76 :: c77 :: c78 :: c79 :: c80 :: c81 :: c82 :: c83 :: c84 :: c85 :: c86 :: c87 :: c88 :: c89 :: c90 :: c91 :: c92 :: c93 :: c94 :: c95 :: c96 :: c97 :: c98 :: c99 :: c100 :: c101 :: c102 :: c103 :: c104 :: c105 :: c106 :: c107 :: c108 :: c109 :: c110 :: c111 :: c112 :: c113 :: c114 :: c115 :: c116 :: c117 :: c118 :: c119 :: c120 :: c121 :: c122 :: c123 :: c124 :: c125 :: c126 :: c127 :: c128 :: c129 :: c130 :: c131 :: c132 :: c133 :: c134 :: c135 :: c136 :: c137 :: c138 :: c139 :: c140 :: c141 :: c142 :: c143 :: c144 :: c145 :: c146 :: c147 :: c148 :: c149 :: c150 :: c151 :: c152 :: c153 :: c154 :: c155 :: c156 :: c157 :: c158 :: c159 :: c160 :: c161 :: c162 :: c163 :: c164 :: c165 :: c166 :: c167 :: c168 :: c169 :: c170 :: c171 :: c172 :: c173 :: c174 :: c175 :: c176 :: c177 :: c178 :: c179 :: c180 :: c181 :: c182 :: c183 :: c184 :: c185 :: c186 :: c187 :: c188 :: c189 :: c190 :: c191 :: c192 :: c193 :: c194 :: c195 :: c196 :: c197 :: c198 :: c199 :: c200 :: c201 :: c202 :: c203 :: c204 :: c205 :: c206 :: c207 :: c208 :: c209 :: c210 :: c211 :: c212 :: c213 :: c214 :: c215 :: c216 :: c217 :: c218 :: c219 :: c220 :: c221 :: c222 :: c223 :: c224 :: c225 :: c226 :: c227 :: c228 :: c229 :: c230 :: c231 :: c232 :: c233 :: c234 :: c235 :: c236 :: c237 :: c238 :: c239 :: c240 :: c241 :: c242 :: c243 :: c244 :: c245 :: c246 :: c247 :: c248 :: c249 :: c250 :: c251 :: c252 :: c253 :: c254 :: c255 :: c256 :: c257 :: c258 :: c259 :: c260 :: c261 :: c262 :: c263 :: c264 :: c265 :: c266 :: c267 :: c268 :: c269 :: c270 :: c271 :: c272 :: c273 :: c274 :: c275 :: c276 :: c277 :: c278 :: c279 :: c280 :: c281 :: c282 :: c283 :: c284 :: c285 :: c286 :: c287 :: c288 :: c289 :: c290 :: c291 :: c292 :: c293 :: c294 :: c295 :: c296 :: c297 :: c298 :: c299 :: c300 :: c301 :: c302 :: c303 :: c304 :: c305 :: c306 :: c307 :: c308 :: c309 :: c310 :: c311 :: c312 :: c313 :: c314 :: c315 :: c316 :: c317 :: c318 :: c319 :: c320 :: c321 :: c322 :: c323 :: c324 :: c325 :: c326 :: c327 :: c328 :: c329 :: c330 :: c331 :: c332 :: c333 :: c334 :: c335 :: c336 :: c337 :: c338 :: c339 :: c340 :: c341 :: c342 :: c343 :: c344 :: c345 :: c346 :: c347 :: c348 :: c349 :: c350 :: c351 :: c352 :: c353 :: c354 :: c355 :: c356 :: c357 :: c358 :: c359 :: c360 :: c361 :: c362 :: c363 :: c364 :: c365 :: c366 :: c367 :: c368 :: c369 :: c370 :: c371 :: c372 :: c373 :: c374 :: []), []⟩ V := by
  conv => arg 2; whnf
  have hw : IntKind.i64.wrap (1 + p) = 1 + p := IntWalk.i64_in _ (by have := HP.out; omega)
  have y2 : V.cell? ⟨gb, 2, none⟩ = some (.int .i64 a8_2) := (blk_cell BK.out 2).trans rfl
  have hfew := fun W (hW : Below w.heap.size w W) => airchecklaw15_few.calls (fun k => k < W.heap.size) A4 c4 l4 fw W (Kd.V_mk HC4.out (Kd.C_F k25_heap (Kd.C_below HR4.out hW))) EF.out
  have hpaint := fun W A c (hC : Kd.C k25 W A fw.length fw) (hc : fw.length ≤ c) => aircheckref15_Paint.calls k (1 + p) o A c fw m2 e2 W hC hc EE.out
  go_region_held3 (fun W => W.cell? ⟨gb, 2, none⟩ = some (.int .i64 a8_2) ∧ Aside0 (Below V.heap.size V W)) (first | (refine tm_S1 ?_ y2; (repeat (first | exact Below.refl _ _ | exact Aside0.out (by assumption) | refine below_alloc ?_ _ | refine below_drew ?_ | refine pw_below_drewN ?_ _)))) (first | (go_at_call 13; with_reducible refine (airchecklaw15_pick.calls a0 400 p _ EP.out).mono ?_; rintro e W5 ⟨rfl, nd, rfl⟩) | (go_at_call 13; with_reducible refine (airchecklaw15_pick.calls a8_2 9 o _ EO.out).mono ?_; rintro e W5 ⟨rfl, nd', rfl⟩) | (go_at_call 15; with_reducible refine (hfew _ ?h1).mono ?_; (case h1 => exact below_step HB.out (by (repeat (first | exact Below.refl _ _ | exact Aside0.out (by assumption) | refine below_alloc ?_ _ | refine below_drew ?_ | refine pw_below_drewN ?_ _)))); rintro e W7 ⟨v, rfl, hv, hb⟩; obtain ⟨Ag, cg, rfl⟩ := Kd.V_slice hv; obtain ⟨-, hcg, hCg⟩ := Kd.V_reads' hv; have HS := Aside0.mk (show Below V.heap.size V W7 from below_step (by (repeat (first | exact Below.refl _ _ | exact Aside0.out (by assumption) | refine below_alloc ?_ _ | refine below_drew ?_ | refine pw_below_drewN ?_ _))) hb); have HG := Aside0.mk hCg; have HCG := Aside0.mk hcg; clear hb hv hCg hcg) | (go_at_call 37; with_reducible refine (hpaint _ Ag cg ?h1 HCG.out).mono ?_; (case h1 => exact Kd.C_below HG.out (by (repeat (first | exact Below.refl _ _ | exact Aside0.out (by assumption) | refine below_alloc ?_ _ | refine below_drew ?_ | refine pw_below_drewN ?_ _)))); rintro e W8 ⟨v, rfl, hr, hb⟩; have HS8 := Aside0.mk (show Below V.heap.size V W8 from below_step (by (repeat (first | exact Below.refl _ _ | exact Aside0.out (by assumption) | refine below_alloc ?_ _ | refine below_drew ?_ | refine pw_below_drewN ?_ _))) hb)))
  all_goals
    obtain ⟨D, d, rfl, hd, hD⟩ := Kd.R_reads hr
    exact hx _ _ _ _ _ _ _ _ _ _ _ _ D d _ hd hD HS8.out
set_option maxHeartbeats 400000000 in
set_option maxRecDepth 100000 in
theorem airchecklaw15_TimelineMatchesReference.calls (k : Nat) (a0 : Int) (A1 : Option Addr) (c1 : Nat) (l1 : List S29) (a2 : Int) (A3 : Option Addr) (c3 : Nat) (l3 : List S29) (A4 : Option Addr) (c4 : Nat) (l4 : List S25) (a5 a6 a7 a8_0 a8_1 a8_2 a9 : Int) (r : Bool) (hz0 : Aside0 (r = true)) (w : World) (hr1 : Kd.C k29 w A1 l1.length l1) (hc1 : l1.length ≤ c1) (hr3 : Kd.C k29 w A3 l3.length l3) (hc3 : l3.length ≤ c3) (hr4 : Kd.C k25 w A4 l4.length l4) (hc4 : l4.length ≤ c4) (h : airchecklaw15_TimelineMatchesReference.f k a0 l1 a2 l3 l4 a5 a6 a7 a8_0 a8_1 a8_2 a9 = some r) :
    Calls Try.prog 3 #[.int .i64 a0, .slice A1 l1.length c1, .int .i64 a2, .slice A3 l3.length c3, .slice A4 l4.length c4, .int .i64 a5, .int .i64 a6, .int .i64 a7, .agg #[.int .i64 a8_0, .int .i64 a8_1, .int .i64 a8_2], .int .i64 a9] w fun e w' => e = .returned (.bool r) ∧ Below w.heap.size w w' := by
  obtain ⟨⟨eS, a, b, fw, p, tt, s2, ins, bent, o, eA, eB, eF, eP, hp, eT, eI, eN, gA, gN, gF, eW, eO, eG⟩, rfl⟩ := tm_f h
  have ES := Aside0.mk eS
  have EA := Aside0.mk eA
  have EB := Aside0.mk eB
  have EF := Aside0.mk eF
  have EP := Aside0.mk eP
  have HP := Aside0.mk hp
  have ET := Aside0.mk eT
  have EI := Aside0.mk eI
  have EN := Aside0.mk eN
  have GA := Aside0.mk gA
  have GN := Aside0.mk gN
  have GF := Aside0.mk gF
  have EW := Aside0.mk eW
  have EO := Aside0.mk eO
  have EG := Aside0.mk eG
  have HR1 := Aside0.mk hr1
  have HR3 := Aside0.mk hr3
  have HR4 := Aside0.mk hr4
  have HC1 := Aside0.mk hc1
  have HC3 := Aside0.mk hc3
  have HC4 := Aside0.mk hc4
  have HB := Aside0.mk (Below.refl w.heap.size w)
  clear h eS eA eB eF eP hp eT eI eN gA gN gF eW eO eG hr1 hr3 hr4 hc1 hc3 hc4
  go_enter Try.func3, Try.ntmps3
  go_wp2_with ((with_reducible refine gate_dst (N := 18) rfl ?_); (try (refine gate_guard (by rfl) ?_; dsimp only)); refine box_event ?hg (N := 18) ?hd (cs := #[.int .i64 a8_0, .int .i64 a8_1, .int .i64 a8_2]) (t := 25) ?hr ?_; (case hd => rfl); (case hg => rfl); (case hr => first | (go_simp; done) | (go_simp; rfl)); intro gb hg W1 hbox hb; have n0_ := Aside0.mk (below_step HB.out hb); have BK := Aside0.mk hbox; have GE := Aside0.mk (by rw [hg]; exact HB.out.size : w.heap.size ≤ gb); clear HB; have HB := n0_; clear n0_ hb hbox hg)
  refine (airchecklaw15_sane.calls k true _ ES.out).mono ?_
  rintro e Wa ⟨rfl, hb⟩
  replace HB := Aside0.mk (below_step HB.out hb); replace BK := Aside0.mk (blk_below BK.out hb); clear hb
  go_wp2_with (fail)
  refine (aircheckref15_Made.calls k a0 A1 c1 l1 a _ (Kd.C_below HR1.out HB.out) HC1.out EA.out).mono ?_
  rintro e Wb ⟨v, rfl, hr, hb⟩
  obtain ⟨Aa, ca, rfl, hca, hCa⟩ := Kd.R_reads hr
  replace HB := Aside0.mk (below_step HB.out hb); replace BK := Aside0.mk (blk_below BK.out hb); have HA := Aside0.mk hCa; have HCA := Aside0.mk hca; clear hb hCa hca hr
  go_wp2_with (fail)
  refine (aircheckref15_Made.calls k a2 A3 c3 l3 b _ (Kd.C_below HR3.out HB.out) HC3.out EB.out).mono ?_
  rintro e Wc ⟨v, rfl, hr, hb⟩
  obtain ⟨Ab, cb, rfl, hcb, hCb⟩ := Kd.R_reads hr
  replace HB := Aside0.mk (below_step HB.out hb); replace BK := Aside0.mk (blk_below BK.out hb); replace HA := Aside0.mk (Kd.C_below HA.out hb); have HBb := Aside0.mk hCb; have HCB := Aside0.mk hcb; clear hb hCb hcb hr
  go_upto_region 4 with (fail)
  go_cut [24] (fun v24 wc => ∃ (ad : Addr) (ci : Nat), v24 = .slice (some ad) (s2 :: ins).length ci ∧ Aside0 ((s2 :: ins).length ≤ ci) ∧ Aside0 (Kd.C k25 wc (some ad) (s2 :: ins).length (s2 :: ins)) ∧ Aside0 (Below Wc.heap.size Wc wc))
  case first =>
    have y0 : Wc.cell? ⟨gb, 0, none⟩ = some (.int .i64 a8_0) := (blk_cell BK.out 0).trans rfl
    have y1 : Wc.cell? ⟨gb, 1, none⟩ = some (.int .i64 a8_1) := (blk_cell BK.out 1).trans rfl
    have y2 : Wc.cell? ⟨gb, 2, none⟩ = some (.int .i64 a8_2) := (blk_cell BK.out 2).trans rfl
    have hw : IntKind.i64.wrap (1 + p) = 1 + p := IntWalk.i64_in _ (by have := HP.out; omega)
    have hq := fun W (hW : W.heap[Wc.heap.size]? = some (.cells #[.int .i64 a8_0, .int .i64 a8_1, .int .i64 a8_2] 29 (0, 0))) => aircheckref15_Spans.calls k (1 + p) (some ⟨Wc.heap.size, 0, none⟩) 1 [⟨a8_0, a8_1, a8_2⟩] (s2 :: ins) W (tm_C29 hW) (Nat.le_refl 1) EI.out
    go_region_held3 (fun W => W.cell? ⟨gb, 0, none⟩ = some (.int .i64 a8_0) ∧ W.cell? ⟨gb, 1, none⟩ = some (.int .i64 a8_1) ∧ W.cell? ⟨gb, 2, none⟩ = some (.int .i64 a8_2) ∧ Aside0 (Below Wc.heap.size Wc W)) (first | (refine tm_S ?_ y0 y1 y2; (repeat (first | exact Below.refl _ _ | exact Aside0.out (by assumption) | refine below_alloc ?_ _ | refine below_drew ?_ | refine pw_below_drewN ?_ _)))) (first | (go_at_call 13; refine (airchecklaw15_pick.calls a0 400 p _ EP.out).mono ?_; rintro e W5 ⟨rfl, nd, rfl⟩) | (go_at_call 12; refine (hq _ ?h1).mono ?_; (case h1 => exact World.alloc_heap_new Wc _); rintro e W6 ⟨v, rfl, hr, hb⟩; have HS := Aside0.mk (show Below Wc.heap.size Wc W6 from below_step (by (repeat (first | exact Below.refl _ _ | exact Aside0.out (by assumption) | refine below_alloc ?_ _ | refine below_drew ?_ | refine pw_below_drewN ?_ _))) hb)))
    all_goals
      go_wp2_with (fail)
      go_meet
      case rel =>
        obtain ⟨A, c, rfl, h1, h2⟩ := Kd.R_reads hr
        obtain ⟨ad, rfl, -, -, -⟩ := at_T25 h2 0 (by omega) (by simp only [List.length_cons]; omega)
        exact ⟨ad, c, rfl, ⟨h1⟩, ⟨h2⟩, HS⟩
  case rest => as_aux_lemma =>
    obtain ⟨ad, ci, rfl, HCI, HI, H4⟩ := hcut
    have hb := H4.out; clear H4
    replace HB := Aside0.mk (below_step HB.out hb); replace BK := Aside0.mk (blk_below BK.out hb); replace HA := Aside0.mk (Kd.C_below HA.out hb); replace HBb := Aside0.mk (Kd.C_below HBb.out hb); clear hb
    go_wp2_with (fail)
    refine (aircheckref15_Bent.calls Aa ca a a5 a6 a7 bent _ HA.out HCA.out EN.out).mono ?_
    rintro e Wf ⟨Ae, ce, rfl, hce, hCe, hb⟩
    replace HB := Aside0.mk (below_step HB.out hb); replace BK := Aside0.mk (blk_below BK.out hb); replace HA := Aside0.mk (Kd.C_below HA.out hb); replace HBb := Aside0.mk (Kd.C_below HBb.out hb); replace HI := Aside0.mk (Kd.C_below HI.out hb); clear hb
    have HE := Aside0.mk hCe; have HCE := Aside0.mk hce; clear hCe hce
    go_wp2_with (fail)
    refine (airchecklaw15_few.calls (fun k => k < Wf.heap.size) A4 c4 l4 fw _ (Kd.V_mk HC4.out (Kd.C_F k25_heap (Kd.C_below HR4.out HB.out))) EF.out).mono ?_
    rintro e Wg ⟨v, rfl, hv, hb⟩
    obtain ⟨Af, cf, rfl⟩ := Kd.V_slice hv
    obtain ⟨-, hcf, hCf⟩ := Kd.V_reads' hv
    replace HB := Aside0.mk (below_step HB.out hb); replace BK := Aside0.mk (blk_below BK.out hb); replace HA := Aside0.mk (Kd.C_below HA.out hb); replace HBb := Aside0.mk (Kd.C_below HBb.out hb); replace HI := Aside0.mk (Kd.C_below HI.out hb); replace HE := Aside0.mk (Kd.C_below HE.out hb); clear hb
    have HF := Aside0.mk hCf; have HCF := Aside0.mk hcf; clear hCf hcf hv
    go_wp2
    obtain ⟨T0, hT0⟩ : ∃ T0, Wg.alloc (.cells #[.slice Aa a.length ca, .slice Ae bent.length ce, .slice Af fw.length cf] 23) = T0 := ⟨_, rfl⟩
    have hb : Below Wg.heap.size Wg T0 := by rw [← hT0]; exact below_alloc (Below.refl _ _) _
    have hk : T0.heap[Wg.heap.size]? = some (.cells #[.slice Aa a.length ca, .slice Ae bent.length ce, .slice Af fw.length cf] 23 (0, 0)) := by rw [← hT0]; exact World.alloc_heap_new _ _
    replace HB := Aside0.mk (below_step HB.out hb); replace BK := Aside0.mk (blk_below BK.out hb); replace HA := Aside0.mk (Kd.C_below HA.out hb); replace HBb := Aside0.mk (Kd.C_below HBb.out hb); replace HI := Aside0.mk (Kd.C_below HI.out hb); replace HE := Aside0.mk (Kd.C_below HE.out hb); replace HF := Aside0.mk (Kd.C_below HF.out hb); clear hb
    obtain ⟨g0, hg0⟩ : ∃ g0, Wg.heap.size = g0 := ⟨_, rfl⟩
    rw [hT0, hg0]
    rw [hg0] at hk
    clear hT0 hg0
    have HL := Aside0.mk (show ∀ j : Nat, j < 3 → ∃ (A : Option Addr) (c : Nat) (l : List S25), T0.cell? ⟨g0, j, none⟩ = some (.slice A l.length c) ∧ l.length ≤ c ∧ Kd.C k25 T0 A l.length l ∧ tm_list k l b [a9, tt] [⟨a8_0, a8_1, a8_2⟩, s2] [a, b, fw] from fun j hj => by
      have h0 := blk_cell hk j
      match j, hj with
      | 0, _ => exact ⟨Aa, ca, a, h0, HCA.out, HA.out, GA.out⟩
      | 1, _ => exact ⟨Ae, ce, bent, h0, HCE.out, HE.out, GN.out⟩
      | 2, _ => exact ⟨Af, cf, fw, h0, HCF.out, HF.out, GF.out⟩)
    clear hk HE HCE HCF HF
    refine tm_seg0 _ _ _ _ _ _ _ _ _ _ _ _ _ _ _ _ _ _ _ _ _ _ _ _ _ _ _ _ _ _ _ _ _ _ _ _ _ _ _ _ _ _ _ _ _ _ _ _ _ _ _ _ _ _ _ _ _ _ _ _ _ _ _ _ _ _ _ _ _ _ _ _ _ _ _ _ _ _ _ _ _ _ _ _ _ _ _ _ _ _ _ _ _ _ _ _ _ _ _ _ _ _ _ _ _ _ _ _ _ _ _ _ _ _ _ _ _ _ _ _ _ _ _ _ _ _ _ _ _ _ _ _ _ _ _ _ _ _ _ _ _ _ _ _ _ _ _ _ _ _ _ _ _ _ _ _ _ _ _ _ _ _ _ _ _ _ _ _ _ _ _ _ _ _ _ _ _ _ _ _ _ _ _ _ _ _ _ _ _ _ _ _ _ _ _ _ _ _ _ _ _ _ _ _ _ _ _ _ _ _ _ _ _ _ _ _ _ _ _ _ _ _ _ _ _ _ _ _ _ _ _ _ _ _ _ _ _ _ _ _ _ _ _ _ _ _ _ _ _ _ _ _ _ _ _ _ _ _ _ _ _ _ _ _ _ _ _ _ _ _ _ _ _ _ _ _ _ _ _ _ _ _ _ _ _ _ _ _ _ _ _ _ _ _ _ _ _ _ _ _ _ _ _ _ _ _ _ _ _ _ _ _ _ _ _ _ _ _ _ _ _ _ _ _ _ _ _ _ _ _ _ _ _ _ _ _ _ _ _ _ _ _ _ _ _ _ _ _ _ _ _ _ _ _ _ _ _ _ _ _ _ _ _ _ _ _ EP HP ET EF HR4 HC4 HB BK HA HCA HBb HCB HI HL ?_
    intro u20 u26 u28 u29 u30 u31 u32 u33 u34 u35 u36 u37 u38 u39 u40 u42 u43 u44 u45 u46 u47 u48 u49 u50 u51 u52 u53 u54 u56 u57 u58 u59 u60 u98 u99 u100 u101 u102 u103 u104 u105 u106 u107 u108 u109 u110 u111 u112 u113 u114 u115 u116 u117 u118 u119 u120 u121 u122 u123 u124 u125 u126 u127 u128 u129 u130 u131 u132 u133 u134 u135 u136 u137 u138 u139 u140 u141 u142 u143 u144 u145 u146 u147 u148 u149 u150 u151 u152 u153 u154 u155 u156 u157 u158 u159 u160 u161 u162 u163 u164 u165 u166 u167 u168 u169 u170 u171 u172 u173 u174 u175 u176 u177 u178 u179 u180 u181 u182 u183 u184 u185 u186 u187 u188 u189 u190 u191 u192 u193 u194 u195 u196 u197 u198 u199 u200 u201 u202 u203 u204 u205 u206 u207 u208 u209 u210 u211 u212 u213 u214 u215 u216 u217 u218 u219 u220 u221 u222 u223 u224 u225 u226 u227 u228 u229 u230 u231 u232 u233 u234 u235 u236 u237 u238 u239 u240 u241 u242 u243 u244 u245 u246 u247 u248 u249 u250 u251 u252 u253 u254 u255 u256 u257 u258 u259 u260 u261 u262 u263 u264 u265 u266 u267 u268 u269 u270 u271 u272 u273 u274 u275 u276 u277 u278 u279 u280 u281 u282 u283 u284 u285 u286 u287 u288 u289 u290 u291 u292 u293 u294 u295 u296 u297 u298 u299 u300 u301 u302 u303 u304 u305 u306 u307 u308 u309 u310 u311 u312 u313 u314 u315 wr hb
    replace HB := Aside0.mk (below_step HB.out hb); replace BK := Aside0.mk (blk_below BK.out hb); clear hb
    clear HL HA HCA HBb HCB HI
    have y2 : wr.cell? ⟨gb, 2, none⟩ = some (.int .i64 a8_2) := (blk_cell BK.out 2).trans rfl
    obtain ⟨m1, e1, hA, hB, hS⟩ := EW.out
    have EA1 := Aside0.mk hA; have EB1 := Aside0.mk hB; have EC1 := Aside0.mk hS; clear hA hB hS EW
    obtain ⟨m2, e2, hA, hB, hS⟩ := EG.out
    have ED1 := Aside0.mk hA; have EE1 := Aside0.mk hB; have EF1 := Aside0.mk hS; clear hA hB hS EG
    go_wp2_with (fail)
    refine (timeline_New.calls k a6 a8_2 m1 e1 _ EA1.out).mono ?_
    rintro e V1 ⟨v, rfl, hr, hb⟩
    obtain ⟨D0, d0, rfl, hd, hD⟩ := Kd.R_reads hr
    clear y2
    replace HB := Aside0.mk (below_step HB.out hb); replace BK := Aside0.mk (blk_below BK.out hb); clear hb
    have HD0 := Aside0.mk hD; have HE0 := Aside0.mk hd; clear hr hd hD
    have y2 : V1.cell? ⟨gb, 2, none⟩ = some (.int .i64 a8_2) := (blk_cell BK.out 2).trans rfl
    go_wp2_with (fail)
    refine (aircheckref15_New.calls a6 a8_2 m1 e1 _ EB1.out).mono ?_
    rintro e V2 ⟨v, rfl, hr, hb⟩
    obtain ⟨D1, d1, rfl, hd, hD⟩ := Kd.R_reads hr
    clear y2
    replace HB := Aside0.mk (below_step HB.out hb); replace BK := Aside0.mk (blk_below BK.out hb); replace HD0 := Aside0.mk (Kd.C_below HD0.out hb); clear hb
    have HD1 := Aside0.mk hD; have HE1 := Aside0.mk hd; clear hr hd hD
    have hw : IntKind.i64.wrap (1 + p) = 1 + p := IntWalk.i64_in _ (by have := HP.out; omega)
    go_upto_region 47 with (fail)
    refine tm_reg47 _ _ _ _ _ _ _ _ _ _ _ _ _ _ _ _ _ _ _ _ _ _ _ _ _ _ _ _ _ _ _ _ _ _ _ _ _ _ _ _ _ _ _ _ _ _ _ _ _ _ _ _ _ _ _ _ _ _ _ _ _ _ _ _ _ _ _ _ _ _ _ _ _ _ _ _ _ _ _ _ _ _ _ _ _ _ _ _ _ _ _ _ _ _ _ _ _ _ _ _ _ _ _ _ _ _ _ _ _ _ _ _ _ _ _ _ _ _ _ _ _ _ _ _ _ _ _ _ _ _ _ _ _ _ _ _ _ _ _ _ _ _ _ _ _ _ _ _ _ _ _ _ _ _ _ _ _ _ _ _ _ _ _ _ _ _ _ _ _ _ _ _ _ _ _ _ _ _ _ _ _ _ _ _ _ _ _ _ _ _ _ _ _ _ _ _ _ _ _ _ _ _ _ _ _ _ _ _ _ _ _ _ _ _ _ _ _ _ _ _ _ _ _ _ _ _ _ _ _ _ _ _ _ _ _ _ _ _ _ _ _ _ _ _ _ _ _ _ _ _ _ _ _ _ _ _ _ _ _ _ _ _ _ _ _ _ _ _ _ _ _ _ _ _ _ _ _ _ _ _ _ _ _ _ _ _ _ _ _ _ _ _ _ _ _ _ _ _ _ _ _ _ _ _ _ _ _ _ _ _ _ _ _ _ _ _ _ _ _ _ _ _ _ _ _ _ _ _ _ _ _ _ _ _ _ _ _ _ _ _ _ _ _ _ _ _ _ _ _ _ _ _ _ _ _ _ _ _ _ _ _ _ _ _ _ _ _ _ _ _ _ _ _ EP HP EO EF HR4 HC4 HB BK ED1 ?_
    intro u330 u331 u332 u333 u334 u335 u336 u337 u338 u339 u340 u341 D2 d2 V3 hd hD hb
    replace HB := Aside0.mk (below_step HB.out hb); replace BK := Aside0.mk (blk_below BK.out hb); replace HD0 := Aside0.mk (Kd.C_below HD0.out hb); replace HD1 := Aside0.mk (Kd.C_below HD1.out hb); clear hb
    have HD2 := Aside0.mk hD; have HE2 := Aside0.mk hd; clear hD hd
    go_upto_region 48 with (fail)
    refine tm_reg48 _ _ _ _ _ _ _ _ _ _ _ _ _ _ _ _ _ _ _ _ _ _ _ _ _ _ _ _ _ _ _ _ _ _ _ _ _ _ _ _ _ _ _ _ _ _ _ _ _ _ _ _ _ _ _ _ _ _ _ _ _ _ _ _ _ _ _ _ _ _ _ _ _ _ _ _ _ _ _ _ _ _ _ _ _ _ _ _ _ _ _ _ _ _ _ _ _ _ _ _ _ _ _ _ _ _ _ _ _ _ _ _ _ _ _ _ _ _ _ _ _ _ _ _ _ _ _ _ _ _ _ _ _ _ _ _ _ _ _ _ _ _ _ _ _ _ _ _ _ _ _ _ _ _ _ _ _ _ _ _ _ _ _ _ _ _ _ _ _ _ _ _ _ _ _ _ _ _ _ _ _ _ _ _ _ _ _ _ _ _ _ _ _ _ _ _ _ _ _ _ _ _ _ _ _ _ _ _ _ _ _ _ _ _ _ _ _ _ _ _ _ _ _ _ _ _ _ _ _ _ _ _ _ _ _ _ _ _ _ _ _ _ _ _ _ _ _ _ _ _ _ _ _ _ _ _ _ _ _ _ _ _ _ _ _ _ _ _ _ _ _ _ _ _ _ _ _ _ _ _ _ _ _ _ _ _ _ _ _ _ _ _ _ _ _ _ _ _ _ _ _ _ _ _ _ _ _ _ _ _ _ _ _ _ _ _ _ _ _ _ _ _ _ _ _ _ _ _ _ _ _ _ _ _ _ _ _ _ _ _ _ _ _ _ _ _ _ _ _ _ _ _ _ _ _ _ _ _ _ _ _ _ _ _ _ _ _ _ _ _ _ _ _ EP HP EO EF HR4 HC4 HB BK EE1 ?_
    intro u342 u343 u344 u345 u346 u347 u348 u349 u350 u351 u352 u353 D3 d3 V4 hd hD hb
    replace HB := Aside0.mk (below_step HB.out hb); replace HD0 := Aside0.mk (Kd.C_below HD0.out hb); replace HD1 := Aside0.mk (Kd.C_below HD1.out hb); replace HD2 := Aside0.mk (Kd.C_below HD2.out hb); clear hb
    have HD3 := Aside0.mk hD; have HE3 := Aside0.mk hd; clear hD hd
    have q1 : (e1 == e1) = true := beq_self_eq_true _
    have q2 : (e2 == e2) = true := beq_self_eq_true _
    go_wp2_with (fail)
    refine (aircheckref15_Same.calls k D0 d0 m1 D1 d1 m1 true _ HD0.out HE0.out HD1.out HE1.out EC1.out).mono ?_
    rintro e V7 ⟨rfl, hd⟩
    have hb := hd.below; clear hd
    replace HB := Aside0.mk (below_step HB.out hb); replace HD2 := Aside0.mk (Kd.C_below HD2.out hb); replace HD3 := Aside0.mk (Kd.C_below HD3.out hb); clear hb
    go_wp2_with (fail)
    refine (aircheckref15_Same.calls k D2 d2 m2 D3 d3 m2 true _ HD2.out HE2.out HD3.out HE3.out EF1.out).mono ?_
    rintro e V8 ⟨rfl, hd⟩
    have hb := hd.below; clear hd
    replace HB := Aside0.mk (below_step HB.out hb); clear hb
    go_wp2
    go_ret
    exact ⟨rfl, HB.out⟩

end Go.Proofs.Ytbhngbjopfjacaa.PM15
