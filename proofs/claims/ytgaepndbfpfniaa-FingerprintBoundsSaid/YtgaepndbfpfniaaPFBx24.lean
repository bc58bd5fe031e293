-- PRINTED by print.py (a twelfth state) out of the translation. Not trusted: Lean checks it.
import Derived.Test.YtgaepndbfpfniaaPFBx0
import Derived.Test.YtgaepndbfpfniaaPFBx9
import Derived.Test.YtgaepndbfpfniaaPFBx13
import Derived.Test.YtgaepndbfpfniaaPFBx14
import Derived.Test.YtgaepndbfpfniaaPFBx15
import Derived.Test.YtgaepndbfpfniaaPFBx20
import Derived.Test.YtgaepndbfpfniaaPFBx21
import Derived.Test.YtgaepndbfpfniaaPFBx22
import Derived.Test.YtgaepndbfpfniaaPFBx23
namespace Go.Proofs.Ytgaepndbfpfniaa.PFB
open Go.RowKit Go.Proofs.YtgaepndbfpfniaaW.PrintWords Go.Proofs.YtgaepndbfpfniaaW.PrintLast Go.Proofs.YtgaepndbfpfniaaW.PrintMore
attribute [local go_sem] max2_int min2_int max_two min_two max_three min_three max_four min_four   -- for this text's walks alone
set_option linter.unusedVariables false
set_option linter.unusedSimpArgs false

/-! ### airchecklaw36_FingerprintBounds: function 5 -/
mutual
def airchecklaw36_FingerprintBounds.j0 : Nat → Int → Int → List Int → List Int → List (List Int) → Int → Bool → Int → Int → Int → Int → Int → Int → Int → List Int → Option (Bool)
  | 0, _, _, _, _, _, _, _, _, _, _, _, _, _, _, _ => none
  | k + 1, x2, x3, x14, x15, x16, x18, x78, x197000, x197001, x197002, x198000, x198001, x198002, x198003, x198004 => if x78 = true then (some false) else (airchecklaw36_FingerprintBounds.l0 k x2 x3 x14 x15 x16 x18 ([] : List (List Int)) 0 x197000 x197001 x197002 x198000 x198001 x198002 x198003 x198004)
def airchecklaw36_FingerprintBounds.l0 : Nat → Int → Int → List Int → List Int → List (List Int) → Int → List (List Int) → Int → Int → Int → Int → Int → Int → Int → Int → List Int → Option (Bool)
  | 0, _, _, _, _, _, _, _, _, _, _, _, _, _, _, _, _ => none
  | k + 1, x2, x3, x14, x15, x16, x18, x22, x23, x197000, x197001, x197002, x198000, x198001, x198002, x198003, x198004 => if x23 < (x16.length : Int) then (airchecklaw36_FingerprintBounds.l1 k x2 x3 x14 x15 x16 x18 x22 x23 ([] : List Int) 0 x197000 x197001 x197002 x198000 x198001 x198002 x198003 x198004) else ((fingerprint_Bound.f k x14 x15 x22).bind fun bt231 => (if bt231.2 = true then (airchecklaw36_FingerprintBounds.j3 k x14 x15 x18 x22 (decide (bt231.1 > x18)) x197000 x197001 x197002 x198000 x198001 x198002 x198003 x198004) else (airchecklaw36_FingerprintBounds.j3 k x14 x15 x18 x22 true x197000 x197001 x197002 x198000 x198001 x198002 x198003 x198004)))
def airchecklaw36_FingerprintBounds.l1 : Nat → Int → Int → List Int → List Int → List (List Int) → Int → List (List Int) → Int → List Int → Int → Int → Int → Int → Int → Int → Int → Int → List Int → Option (Bool)
  | 0, _, _, _, _, _, _, _, _, _, _, _, _, _, _, _, _, _, _ => none
  | k + 1, x2, x3, x14, x15, x16, x18, x22, x23, x24, x25, x197000, x197001, x197002, x198000, x198001, x198002, x198003, x198004 => if 0 ≤ x23 then (if x23 < (x16.length : Int) then (if x25 < ((rd_L1 x16 x23).length : Int) then (if 0 ≤ x25 then ((airchecklaw36_pick.f x3 8).bind fun t223 => ((airchecklaw36_pick.f x2 100).bind fun t224 => (if x24.length < 17592186044416 then (airchecklaw36_FingerprintBounds.l1 k x2 x3 x14 x15 x16 x18 x22 x23 (x24 ++ [wrap64 ((mn (rd (rd_L1 x16 x23) x25) t223) - t224)]) (wrap64 (x25 + 1)) x197000 x197001 x197002 x198000 x198001 x198002 x198003 x198004) else (none)))) else (none)) else (if x22.length < 5864062014805 then (airchecklaw36_FingerprintBounds.l0 k x2 x3 x14 x15 x16 x18 (x22 ++ [x24]) (wrap64 (x23 + 1)) x197000 x197001 x197002 x198000 x198001 x198002 x198003 x198004) else (none))) else (none)) else (none)
def airchecklaw36_FingerprintBounds.j3 : Nat → List Int → List Int → Int → List (List Int) → Bool → Int → Int → Int → Int → Int → Int → Int → List Int → Option (Bool)
  | 0, _, _, _, _, _, _, _, _, _, _, _, _, _ => none
  | k + 1, x14, x15, x18, x22, x127, x197000, x197001, x197002, x198000, x198001, x198002, x198003, x198004 => if x127 = true then (some false) else ((stop_airchecklaw36_FingerprintBounds x14 x15 x18 x22 x197000 x197001 x197002 x198000 x198001 x198002 x198003 x198004))
end
def airchecklaw36_FingerprintBounds.f (k : Nat) (l0 : List Int) (l1 : List Int) (a2 : Int) (a3 : Int) (a4_0 : Int) (a4_1 : Int) (a4_2 : Int) (a5_0 : Int) (a5_1 : Int) (a5_2 : Int) (a5_3 : Int) (l5_4 : List Int) : Option (Bool) := (airchecklaw36_sane.f).bind fun t198 => (if t198 = true then ((aircheckref36_Codes2.f k l0).bind fun t199 => ((aircheckref36_Codes.f k l1).bind fun t202 => ((fingerprint_Table.f t199 t202).bind fun bt205 => ((fingerprint_Bound.f k t199 t202 bt205.1).bind fun bt209 => ((fingerprint_Align.f k t199 t202).bind fun bt211 => (if bt205.2 = 0 then (if bt211.2.2.2.2.2 = 0 then (if bt209.2 = true then (if bt209.1 = bt211.2.2.2.1 then (airchecklaw36_FingerprintBounds.j0 k a2 a3 t199 t202 bt205.1 bt209.1 ((bt205.1.length : Int) != (wrap64 ((t199.length : Int) + 1))) a4_0 a4_1 a4_2 a5_0 a5_1 a5_2 a5_3 l5_4) else (airchecklaw36_FingerprintBounds.j0 k a2 a3 t199 t202 bt205.1 bt209.1 true a4_0 a4_1 a4_2 a5_0 a5_1 a5_2 a5_3 l5_4)) else (airchecklaw36_FingerprintBounds.j0 k a2 a3 t199 t202 bt205.1 bt209.1 true a4_0 a4_1 a4_2 a5_0 a5_1 a5_2 a5_3 l5_4)) else (airchecklaw36_FingerprintBounds.j0 k a2 a3 t199 t202 bt205.1 bt209.1 true a4_0 a4_1 a4_2 a5_0 a5_1 a5_2 a5_3 l5_4)) else (airchecklaw36_FingerprintBounds.j0 k a2 a3 t199 t202 bt205.1 bt209.1 true a4_0 a4_1 a4_2 a5_0 a5_1 a5_2 a5_3 l5_4))))))) else (some false))
theorem airchecklaw36_FingerprintBounds.mono_l : ∀ k, (∀ y0 y1 y2 y3 y4 y5 y6 y7 y8 y9 y10 y11 y12 y13 y14, LeO (airchecklaw36_FingerprintBounds.j0 k y0 y1 y2 y3 y4 y5 y6 y7 y8 y9 y10 y11 y12 y13 y14) (airchecklaw36_FingerprintBounds.j0 (k + 1) y0 y1 y2 y3 y4 y5 y6 y7 y8 y9 y10 y11 y12 y13 y14)) ∧ (∀ y0 y1 y2 y3 y4 y5 y6 y7 y8 y9 y10 y11 y12 y13 y14 y15, LeO (airchecklaw36_FingerprintBounds.l0 k y0 y1 y2 y3 y4 y5 y6 y7 y8 y9 y10 y11 y12 y13 y14 y15) (airchecklaw36_FingerprintBounds.l0 (k + 1) y0 y1 y2 y3 y4 y5 y6 y7 y8 y9 y10 y11 y12 y13 y14 y15)) ∧ (∀ y0 y1 y2 y3 y4 y5 y6 y7 y8 y9 y10 y11 y12 y13 y14 y15 y16 y17, LeO (airchecklaw36_FingerprintBounds.l1 k y0 y1 y2 y3 y4 y5 y6 y7 y8 y9 y10 y11 y12 y13 y14 y15 y16 y17) (airchecklaw36_FingerprintBounds.l1 (k + 1) y0 y1 y2 y3 y4 y5 y6 y7 y8 y9 y10 y11 y12 y13 y14 y15 y16 y17)) ∧ (∀ y0 y1 y2 y3 y4 y5 y6 y7 y8 y9 y10 y11 y12, LeO (airchecklaw36_FingerprintBounds.j3 k y0 y1 y2 y3 y4 y5 y6 y7 y8 y9 y10 y11 y12) (airchecklaw36_FingerprintBounds.j3 (k + 1) y0 y1 y2 y3 y4 y5 y6 y7 y8 y9 y10 y11 y12))
  | 0 => ⟨fun _ _ _ _ _ _ _ _ _ _ _ _ _ _ _ r h => by simp [airchecklaw36_FingerprintBounds.j0] at h, fun _ _ _ _ _ _ _ _ _ _ _ _ _ _ _ _ r h => by simp [airchecklaw36_FingerprintBounds.l0] at h, fun _ _ _ _ _ _ _ _ _ _ _ _ _ _ _ _ _ _ r h => by simp [airchecklaw36_FingerprintBounds.l1] at h, fun _ _ _ _ _ _ _ _ _ _ _ _ _ r h => by simp [airchecklaw36_FingerprintBounds.j3] at h⟩
  | k + 1 => by
    obtain ⟨ih0, ih1, ih2, ih3⟩ := airchecklaw36_FingerprintBounds.mono_l k
    refine ⟨?_, ?_, ?_, ?_⟩
    · intro y0 y1 y2 y3 y4 y5 y6 y7 y8 y9 y10 y11 y12 y13 y14
      unfold airchecklaw36_FingerprintBounds.j0
      repeat' first
      | (with_reducible exact ih0 _ _ _ _ _ _ _ _ _ _ _ _ _ _ _)
      | (with_reducible exact ih1 _ _ _ _ _ _ _ _ _ _ _ _ _ _ _ _)
      | (with_reducible exact ih2 _ _ _ _ _ _ _ _ _ _ _ _ _ _ _ _ _ _)
      | (with_reducible exact ih3 _ _ _ _ _ _ _ _ _ _ _ _ _)
      | (with_reducible exact aircheckref36_Codes.mono _ _)
      | (with_reducible exact aircheckref36_Codes2.mono _ _)
      | (with_reducible exact fingerprint_Align.mono _ _ _)
      | (with_reducible exact fingerprint_Bound.mono _ _ _ _)
      | (with_reducible exact LeO.refl _)
      | (with_reducible exact LeO.none _)
      | (with_reducible refine LeO.ite ?_ ?_)
      | (with_reducible refine LeO.bind ?_ (fun _ => ?_))
      | exact ih0 _ _ _ _ _ _ _ _ _ _ _ _ _ _ _
      | exact ih1 _ _ _ _ _ _ _ _ _ _ _ _ _ _ _ _
      | exact ih2 _ _ _ _ _ _ _ _ _ _ _ _ _ _ _ _ _ _
      | exact ih3 _ _ _ _ _ _ _ _ _ _ _ _ _
      | exact aircheckref36_Codes.mono _ _
      | exact aircheckref36_Codes2.mono _ _
      | exact fingerprint_Align.mono _ _ _
      | exact fingerprint_Bound.mono _ _ _ _
      | exact LeO.none _
      | refine LeO.ite ?_ ?_
      | refine LeO.bind ?_ (fun _ => ?_)
    · intro y0 y1 y2 y3 y4 y5 y6 y7 y8 y9 y10 y11 y12 y13 y14 y15
      unfold airchecklaw36_FingerprintBounds.l0
      repeat' first
      | (with_reducible exact ih0 _ _ _ _ _ _ _ _ _ _ _ _ _ _ _)
      | (with_reducible exact ih1 _ _ _ _ _ _ _ _ _ _ _ _ _ _ _ _)
      | (with_reducible exact ih2 _ _ _ _ _ _ _ _ _ _ _ _ _ _ _ _ _ _)
      | (with_reducible exact ih3 _ _ _ _ _ _ _ _ _ _ _ _ _)
      | (with_reducible exact aircheckref36_Codes.mono _ _)
      | (with_reducible exact aircheckref36_Codes2.mono _ _)
      | (with_reducible exact fingerprint_Align.mono _ _ _)
      | (with_reducible exact fingerprint_Bound.mono _ _ _ _)
      | (with_reducible exact LeO.refl _)
      | (with_reducible exact LeO.none _)
      | (with_reducible refine LeO.ite ?_ ?_)
      | (with_reducible refine LeO.bind ?_ (fun _ => ?_))
      | exact ih0 _ _ _ _ _ _ _ _ _ _ _ _ _ _ _
      | exact ih1 _ _ _ _ _ _ _ _ _ _ _ _ _ _ _ _
      | exact ih2 _ _ _ _ _ _ _ _ _ _ _ _ _ _ _ _ _ _
      | exact ih3 _ _ _ _ _ _ _ _ _ _ _ _ _
      | exact aircheckref36_Codes.mono _ _
      | exact aircheckref36_Codes2.mono _ _
      | exact fingerprint_Align.mono _ _ _
      | exact fingerprint_Bound.mono _ _ _ _
      | exact LeO.none _
      | refine LeO.ite ?_ ?_
      | refine LeO.bind ?_ (fun _ => ?_)
    · intro y0 y1 y2 y3 y4 y5 y6 y7 y8 y9 y10 y11 y12 y13 y14 y15 y16 y17
      unfold airchecklaw36_FingerprintBounds.l1
      repeat' first
      | (with_reducible exact ih0 _ _ _ _ _ _ _ _ _ _ _ _ _ _ _)
      | (with_reducible exact ih1 _ _ _ _ _ _ _ _ _ _ _ _ _ _ _ _)
      | (with_reducible exact ih2 _ _ _ _ _ _ _ _ _ _ _ _ _ _ _ _ _ _)
      | (with_reducible exact ih3 _ _ _ _ _ _ _ _ _ _ _ _ _)
      | (with_reducible exact aircheckref36_Codes.mono _ _)
      | (with_reducible exact aircheckref36_Codes2.mono _ _)
      | (with_reducible exact fingerprint_Align.mono _ _ _)
      | (with_reducible exact fingerprint_Bound.mono _ _ _ _)
      | (with_reducible exact LeO.refl _)
      | (with_reducible exact LeO.none _)
      | (with_reducible refine LeO.ite ?_ ?_)
      | (with_reducible refine LeO.bind ?_ (fun _ => ?_))
      | exact ih0 _ _ _ _ _ _ _ _ _ _ _ _ _ _ _
      | exact ih1 _ _ _ _ _ _ _ _ _ _ _ _ _ _ _ _
      | exact ih2 _ _ _ _ _ _ _ _ _ _ _ _ _ _ _ _ _ _
      | exact ih3 _ _ _ _ _ _ _ _ _ _ _ _ _
      | exact aircheckref36_Codes.mono _ _
      | exact aircheckref36_Codes2.mono _ _
      | exact fingerprint_Align.mono _ _ _
      | exact fingerprint_Bound.mono _ _ _ _
      | exact LeO.none _
      | refine LeO.ite ?_ ?_
      | refine LeO.bind ?_ (fun _ => ?_)
    · intro y0 y1 y2 y3 y4 y5 y6 y7 y8 y9 y10 y11 y12
      unfold airchecklaw36_FingerprintBounds.j3
      repeat' first
      | (with_reducible exact ih0 _ _ _ _ _ _ _ _ _ _ _ _ _ _ _)
      | (with_reducible exact ih1 _ _ _ _ _ _ _ _ _ _ _ _ _ _ _ _)
      | (with_reducible exact ih2 _ _ _ _ _ _ _ _ _ _ _ _ _ _ _ _ _ _)
      | (with_reducible exact ih3 _ _ _ _ _ _ _ _ _ _ _ _ _)
      | (with_reducible exact aircheckref36_Codes.mono _ _)
      | (with_reducible exact aircheckref36_Codes2.mono _ _)
      | (with_reducible exact fingerprint_Align.mono _ _ _)
      | (with_reducible exact fingerprint_Bound.mono _ _ _ _)
      | (with_reducible exact LeO.refl _)
      | (with_reducible exact LeO.none _)
      | (with_reducible refine LeO.ite ?_ ?_)
      | (with_reducible refine LeO.bind ?_ (fun _ => ?_))
      | exact ih0 _ _ _ _ _ _ _ _ _ _ _ _ _ _ _
      | exact ih1 _ _ _ _ _ _ _ _ _ _ _ _ _ _ _ _
      | exact ih2 _ _ _ _ _ _ _ _ _ _ _ _ _ _ _ _ _ _
      | exact ih3 _ _ _ _ _ _ _ _ _ _ _ _ _
      | exact aircheckref36_Codes.mono _ _
      | exact aircheckref36_Codes2.mono _ _
      | exact fingerprint_Align.mono _ _ _
      | exact fingerprint_Bound.mono _ _ _ _
      | exact LeO.none _
      | refine LeO.ite ?_ ?_
      | refine LeO.bind ?_ (fun _ => ?_)
theorem airchecklaw36_FingerprintBounds.mono : ∀ a0 a1 a2 a3 a4 a5 a6 a7 a8 a9 a10 a11 k, LeO (airchecklaw36_FingerprintBounds.f k a0 a1 a2 a3 a4 a5 a6 a7 a8 a9 a10 a11) (airchecklaw36_FingerprintBounds.f (k + 1) a0 a1 a2 a3 a4 a5 a6 a7 a8 a9 a10 a11) := by
  intro a0 a1 a2 a3 a4 a5 a6 a7 a8 a9 a10 a11 k
  obtain ⟨ih0, ih1, ih2, ih3⟩ := airchecklaw36_FingerprintBounds.mono_l k
  unfold airchecklaw36_FingerprintBounds.f
  repeat' first
      | (with_reducible exact ih0 _ _ _ _ _ _ _ _ _ _ _ _ _ _ _)
      | (with_reducible exact ih1 _ _ _ _ _ _ _ _ _ _ _ _ _ _ _ _)
      | (with_reducible exact ih2 _ _ _ _ _ _ _ _ _ _ _ _ _ _ _ _ _ _)
      | (with_reducible exact ih3 _ _ _ _ _ _ _ _ _ _ _ _ _)
      | (with_reducible exact aircheckref36_Codes.mono _ _)
      | (with_reducible exact aircheckref36_Codes2.mono _ _)
      | (with_reducible exact fingerprint_Align.mono _ _ _)
      | (with_reducible exact fingerprint_Bound.mono _ _ _ _)
      | (with_reducible exact LeO.refl _)
      | (with_reducible exact LeO.none _)
      | (with_reducible refine LeO.ite ?_ ?_)
      | (with_reducible refine LeO.bind ?_ (fun _ => ?_))
      | exact ih0 _ _ _ _ _ _ _ _ _ _ _ _ _ _ _
      | exact ih1 _ _ _ _ _ _ _ _ _ _ _ _ _ _ _ _
      | exact ih2 _ _ _ _ _ _ _ _ _ _ _ _ _ _ _ _ _ _
      | exact ih3 _ _ _ _ _ _ _ _ _ _ _ _ _
      | exact aircheckref36_Codes.mono _ _
      | exact aircheckref36_Codes2.mono _ _
      | exact fingerprint_Align.mono _ _ _
      | exact fingerprint_Bound.mono _ _ _ _
      | exact LeO.none _
      | refine LeO.ite ?_ ?_
      | refine LeO.bind ?_ (fun _ => ?_)
def airchecklaw36_FingerprintBounds.T19 : Bool × List (List Nat × List Nat) := (true, [([], []), ([], []), ([], []), ([1, 2], [1, 2]), ([3], [3]), ([], []), ([4, 5], [4, 5]), ([6], [6]), ([], []), ([8], [8]), ([7, 9], [7, 9]), ([], []), ([11, 9], [11]), ([10, 12], [10, 12]), ([13], [13]), ([0, 14, 12], [0, 14]), ([15, 15, 0, 1, 2, 3, 4, 5, 6, 7, 8, 9, 10, 11, 12, 13, 14, 15], [0, 15])])
def airchecklaw36_FingerprintBounds.B19 : List Nat := [0, 0, 0, 6, 14, 0, 62, 126, 0, 256, 1022, 0, 2816, 8190, 16382, 32767, 65535]
theorem airchecklaw36_FingerprintBounds.tab19 : rtab .any (opsOf Try.f5 19) = airchecklaw36_FingerprintBounds.T19 := by kernel_rfl
theorem airchecklaw36_FingerprintBounds.bits19 : waitsOk airchecklaw36_FingerprintBounds.T19.2 airchecklaw36_FingerprintBounds.B19 = true := by kernel_rfl
set_option maxHeartbeats 8000000 in
set_option maxRecDepth 100000 in
theorem airchecklaw36_FingerprintBounds.calls (k : Nat) (A0 : Option Addr) (c0 : Nat) (l0 : List Int) (A1 : Option Addr) (c1 : Nat) (l1 : List Int) (a2 : Int) (a3 : Int) (a4_0 : Int) (a4_1 : Int) (a4_2 : Int) (a5_0 : Int) (a5_1 : Int) (a5_2 : Int) (a5_3 : Int) (A5_4 : Option Addr) (c5_4 : Nat) (l5_4 : List Int) (r : Bool) (hr0 : Aside0 (r = true)) (w : World) (hr0 : Kd.C (Kd.int .i64) w A0 l0.length l0) (hc0 : l0.length ≤ c0) (hr1 : Kd.C (Kd.int .i64) w A1 l1.length l1) (hc1 : l1.length ≤ c1) (hr5_4 : Kd.C (Kd.int .i64) w A5_4 l5_4.length l5_4) (hc5_4 : l5_4.length ≤ c5_4) (h : airchecklaw36_FingerprintBounds.f k l0 l1 a2 a3 a4_0 a4_1 a4_2 a5_0 a5_1 a5_2 a5_3 l5_4 = some r) :
    Calls Try.prog 5 #[.slice A0 l0.length c0, .slice A1 l1.length c1, .int .i64 a2, .int .i64 a3, .agg #[.int .i64 a4_0, .int .i64 a4_1, .int .i64 a4_2], .agg #[.int .i64 a5_0, .int .i64 a5_1, .int .i64 a5_2, .int .i64 a5_3, .slice A5_4 l5_4.length c5_4]] w fun e w' => e = .returned (.bool r) ∧ Below w.heap.size w w' := by
  have hu29 := Try.underlying29
  have hu25 := Try.underlying25
  have HR0 := Aside0.mk hr0
  have HC0 := Aside0.mk hc0
  clear hr0 hc0
  have HR1 := Aside0.mk hr1
  have HC1 := Aside0.mk hc1
  clear hr1 hc1
  have HR5_4 := Aside0.mk hr5_4
  have HC5_4 := Aside0.mk hc5_4
  clear hr5_4 hc5_4
  have HB := Aside0.mk (Below.refl w.heap.size w)
  have H : ((airchecklaw36_sane.f).bind fun t198 => (if t198 = true then ((aircheckref36_Codes2.f k l0).bind fun t199 => ((aircheckref36_Codes.f k l1).bind fun t202 => ((fingerprint_Table.f t199 t202).bind fun bt205 => ((fingerprint_Bound.f k t199 t202 bt205.1).bind fun bt209 => ((fingerprint_Align.f k t199 t202).bind fun bt211 => (if bt205.2 = 0 then (if bt211.2.2.2.2.2 = 0 then (if bt209.2 = true then (if bt209.1 = bt211.2.2.2.1 then (airchecklaw36_FingerprintBounds.j0 k a2 a3 t199 t202 bt205.1 bt209.1 ((bt205.1.length : Int) != (wrap64 ((t199.length : Int) + 1))) a4_0 a4_1 a4_2 a5_0 a5_1 a5_2 a5_3 l5_4) else (airchecklaw36_FingerprintBounds.j0 k a2 a3 t199 t202 bt205.1 bt209.1 true a4_0 a4_1 a4_2 a5_0 a5_1 a5_2 a5_3 l5_4)) else (airchecklaw36_FingerprintBounds.j0 k a2 a3 t199 t202 bt205.1 bt209.1 true a4_0 a4_1 a4_2 a5_0 a5_1 a5_2 a5_3 l5_4)) else (airchecklaw36_FingerprintBounds.j0 k a2 a3 t199 t202 bt205.1 bt209.1 true a4_0 a4_1 a4_2 a5_0 a5_1 a5_2 a5_3 l5_4)) else (airchecklaw36_FingerprintBounds.j0 k a2 a3 t199 t202 bt205.1 bt209.1 true a4_0 a4_1 a4_2 a5_0 a5_1 a5_2 a5_3 l5_4))))))) else (some false))) = some r := h
  clear h
  replace H := Option.bind_eq_some_iff.mp H
  obtain ⟨t198, A70, H⟩ := H
  replace H : (if t198 = true then ((aircheckref36_Codes2.f k l0).bind fun t199 => ((aircheckref36_Codes.f k l1).bind fun t202 => ((fingerprint_Table.f t199 t202).bind fun bt205 => ((fingerprint_Bound.f k t199 t202 bt205.1).bind fun bt209 => ((fingerprint_Align.f k t199 t202).bind fun bt211 => (if bt205.2 = 0 then (if bt211.2.2.2.2.2 = 0 then (if bt209.2 = true then (if bt209.1 = bt211.2.2.2.1 then (airchecklaw36_FingerprintBounds.j0 k a2 a3 t199 t202 bt205.1 bt209.1 ((bt205.1.length : Int) != (wrap64 ((t199.length : Int) + 1))) a4_0 a4_1 a4_2 a5_0 a5_1 a5_2 a5_3 l5_4) else (airchecklaw36_FingerprintBounds.j0 k a2 a3 t199 t202 bt205.1 bt209.1 true a4_0 a4_1 a4_2 a5_0 a5_1 a5_2 a5_3 l5_4)) else (airchecklaw36_FingerprintBounds.j0 k a2 a3 t199 t202 bt205.1 bt209.1 true a4_0 a4_1 a4_2 a5_0 a5_1 a5_2 a5_3 l5_4)) else (airchecklaw36_FingerprintBounds.j0 k a2 a3 t199 t202 bt205.1 bt209.1 true a4_0 a4_1 a4_2 a5_0 a5_1 a5_2 a5_3 l5_4)) else (airchecklaw36_FingerprintBounds.j0 k a2 a3 t199 t202 bt205.1 bt209.1 true a4_0 a4_1 a4_2 a5_0 a5_1 a5_2 a5_3 l5_4))))))) else (some false)) = some r := H
  have A7 := Aside0.mk A70
  clear A70
  by_cases c8 : t198 = true
  · subst c8
    have H1 : ((aircheckref36_Codes2.f k l0).bind fun t199 => ((aircheckref36_Codes.f k l1).bind fun t202 => ((fingerprint_Table.f t199 t202).bind fun bt205 => ((fingerprint_Bound.f k t199 t202 bt205.1).bind fun bt209 => ((fingerprint_Align.f k t199 t202).bind fun bt211 => (if bt205.2 = 0 then (if bt211.2.2.2.2.2 = 0 then (if bt209.2 = true then (if bt209.1 = bt211.2.2.2.1 then (airchecklaw36_FingerprintBounds.j0 k a2 a3 t199 t202 bt205.1 bt209.1 ((bt205.1.length : Int) != (wrap64 ((t199.length : Int) + 1))) a4_0 a4_1 a4_2 a5_0 a5_1 a5_2 a5_3 l5_4) else (airchecklaw36_FingerprintBounds.j0 k a2 a3 t199 t202 bt205.1 bt209.1 true a4_0 a4_1 a4_2 a5_0 a5_1 a5_2 a5_3 l5_4)) else (airchecklaw36_FingerprintBounds.j0 k a2 a3 t199 t202 bt205.1 bt209.1 true a4_0 a4_1 a4_2 a5_0 a5_1 a5_2 a5_3 l5_4)) else (airchecklaw36_FingerprintBounds.j0 k a2 a3 t199 t202 bt205.1 bt209.1 true a4_0 a4_1 a4_2 a5_0 a5_1 a5_2 a5_3 l5_4)) else (airchecklaw36_FingerprintBounds.j0 k a2 a3 t199 t202 bt205.1 bt209.1 true a4_0 a4_1 a4_2 a5_0 a5_1 a5_2 a5_3 l5_4))))))) = some r := by rw [if_pos rfl] at H; exact H
    clear H
    have H := H1
    clear H1
    replace H := Option.bind_eq_some_iff.mp H
    obtain ⟨t199, A90, H⟩ := H
    replace H : ((aircheckref36_Codes.f k l1).bind fun t202 => ((fingerprint_Table.f t199 t202).bind fun bt205 => ((fingerprint_Bound.f k t199 t202 bt205.1).bind fun bt209 => ((fingerprint_Align.f k t199 t202).bind fun bt211 => (if bt205.2 = 0 then (if bt211.2.2.2.2.2 = 0 then (if bt209.2 = true then (if bt209.1 = bt211.2.2.2.1 then (airchecklaw36_FingerprintBounds.j0 k a2 a3 t199 t202 bt205.1 bt209.1 ((bt205.1.length : Int) != (wrap64 ((t199.length : Int) + 1))) a4_0 a4_1 a4_2 a5_0 a5_1 a5_2 a5_3 l5_4) else (airchecklaw36_FingerprintBounds.j0 k a2 a3 t199 t202 bt205.1 bt209.1 true a4_0 a4_1 a4_2 a5_0 a5_1 a5_2 a5_3 l5_4)) else (airchecklaw36_FingerprintBounds.j0 k a2 a3 t199 t202 bt205.1 bt209.1 true a4_0 a4_1 a4_2 a5_0 a5_1 a5_2 a5_3 l5_4)) else (airchecklaw36_FingerprintBounds.j0 k a2 a3 t199 t202 bt205.1 bt209.1 true a4_0 a4_1 a4_2 a5_0 a5_1 a5_2 a5_3 l5_4)) else (airchecklaw36_FingerprintBounds.j0 k a2 a3 t199 t202 bt205.1 bt209.1 true a4_0 a4_1 a4_2 a5_0 a5_1 a5_2 a5_3 l5_4)))))) = some r := H
    have A9 := Aside0.mk A90
    clear A90
    replace H := Option.bind_eq_some_iff.mp H
    obtain ⟨t202, A100, H⟩ := H
    replace H : ((fingerprint_Table.f t199 t202).bind fun bt205 => ((fingerprint_Bound.f k t199 t202 bt205.1).bind fun bt209 => ((fingerprint_Align.f k t199 t202).bind fun bt211 => (if bt205.2 = 0 then (if bt211.2.2.2.2.2 = 0 then (if bt209.2 = true then (if bt209.1 = bt211.2.2.2.1 then (airchecklaw36_FingerprintBounds.j0 k a2 a3 t199 t202 bt205.1 bt209.1 ((bt205.1.length : Int) != (wrap64 ((t199.length : Int) + 1))) a4_0 a4_1 a4_2 a5_0 a5_1 a5_2 a5_3 l5_4) else (airchecklaw36_FingerprintBounds.j0 k a2 a3 t199 t202 bt205.1 bt209.1 true a4_0 a4_1 a4_2 a5_0 a5_1 a5_2 a5_3 l5_4)) else (airchecklaw36_FingerprintBounds.j0 k a2 a3 t199 t202 bt205.1 bt209.1 true a4_0 a4_1 a4_2 a5_0 a5_1 a5_2 a5_3 l5_4)) else (airchecklaw36_FingerprintBounds.j0 k a2 a3 t199 t202 bt205.1 bt209.1 true a4_0 a4_1 a4_2 a5_0 a5_1 a5_2 a5_3 l5_4)) else (airchecklaw36_FingerprintBounds.j0 k a2 a3 t199 t202 bt205.1 bt209.1 true a4_0 a4_1 a4_2 a5_0 a5_1 a5_2 a5_3 l5_4))))) = some r := H
    have A10 := Aside0.mk A100
    clear A100
    replace H := Option.bind_eq_some_iff.mp H
    obtain ⟨⟨t205, t206⟩, A110, H⟩ := H
    replace H : ((fingerprint_Bound.f k t199 t202 t205).bind fun bt209 => ((fingerprint_Align.f k t199 t202).bind fun bt211 => (if t206 = 0 then (if bt211.2.2.2.2.2 = 0 then (if bt209.2 = true then (if bt209.1 = bt211.2.2.2.1 then (airchecklaw36_FingerprintBounds.j0 k a2 a3 t199 t202 t205 bt209.1 ((t205.length : Int) != (wrap64 ((t199.length : Int) + 1))) a4_0 a4_1 a4_2 a5_0 a5_1 a5_2 a5_3 l5_4) else (airchecklaw36_FingerprintBounds.j0 k a2 a3 t199 t202 t205 bt209.1 true a4_0 a4_1 a4_2 a5_0 a5_1 a5_2 a5_3 l5_4)) else (airchecklaw36_FingerprintBounds.j0 k a2 a3 t199 t202 t205 bt209.1 true a4_0 a4_1 a4_2 a5_0 a5_1 a5_2 a5_3 l5_4)) else (airchecklaw36_FingerprintBounds.j0 k a2 a3 t199 t202 t205 bt209.1 true a4_0 a4_1 a4_2 a5_0 a5_1 a5_2 a5_3 l5_4)) else (airchecklaw36_FingerprintBounds.j0 k a2 a3 t199 t202 t205 bt209.1 true a4_0 a4_1 a4_2 a5_0 a5_1 a5_2 a5_3 l5_4)))) = some r := H
    have A11 := Aside0.mk A110
    clear A110
    replace H := Option.bind_eq_some_iff.mp H
    obtain ⟨⟨t209, t210⟩, A120, H⟩ := H
    replace H : ((fingerprint_Align.f k t199 t202).bind fun bt211 => (if t206 = 0 then (if bt211.2.2.2.2.2 = 0 then (if t210 = true then (if t209 = bt211.2.2.2.1 then (airchecklaw36_FingerprintBounds.j0 k a2 a3 t199 t202 t205 t209 ((t205.length : Int) != (wrap64 ((t199.length : Int) + 1))) a4_0 a4_1 a4_2 a5_0 a5_1 a5_2 a5_3 l5_4) else (airchecklaw36_FingerprintBounds.j0 k a2 a3 t199 t202 t205 t209 true a4_0 a4_1 a4_2 a5_0 a5_1 a5_2 a5_3 l5_4)) else (airchecklaw36_FingerprintBounds.j0 k a2 a3 t199 t202 t205 t209 true a4_0 a4_1 a4_2 a5_0 a5_1 a5_2 a5_3 l5_4)) else (airchecklaw36_FingerprintBounds.j0 k a2 a3 t199 t202 t205 t209 true a4_0 a4_1 a4_2 a5_0 a5_1 a5_2 a5_3 l5_4)) else (airchecklaw36_FingerprintBounds.j0 k a2 a3 t199 t202 t205 t209 true a4_0 a4_1 a4_2 a5_0 a5_1 a5_2 a5_3 l5_4))) = some r := H
    have A12 := Aside0.mk A120
    clear A120
    replace H := Option.bind_eq_some_iff.mp H
    obtain ⟨⟨t211, t212, t213, t214, t215, t218⟩, A130, H⟩ := H
    replace H : (if t206 = 0 then (if t218 = 0 then (if t210 = true then (if t209 = t214 then (airchecklaw36_FingerprintBounds.j0 k a2 a3 t199 t202 t205 t209 ((t205.length : Int) != (wrap64 ((t199.length : Int) + 1))) a4_0 a4_1 a4_2 a5_0 a5_1 a5_2 a5_3 l5_4) else (airchecklaw36_FingerprintBounds.j0 k a2 a3 t199 t202 t205 t209 true a4_0 a4_1 a4_2 a5_0 a5_1 a5_2 a5_3 l5_4)) else (airchecklaw36_FingerprintBounds.j0 k a2 a3 t199 t202 t205 t209 true a4_0 a4_1 a4_2 a5_0 a5_1 a5_2 a5_3 l5_4)) else (airchecklaw36_FingerprintBounds.j0 k a2 a3 t199 t202 t205 t209 true a4_0 a4_1 a4_2 a5_0 a5_1 a5_2 a5_3 l5_4)) else (airchecklaw36_FingerprintBounds.j0 k a2 a3 t199 t202 t205 t209 true a4_0 a4_1 a4_2 a5_0 a5_1 a5_2 a5_3 l5_4)) = some r := H
    have A13 := Aside0.mk A130
    clear A130
    have HC14 := Aside0.mk H
    clear H
    go_enter Try.func5, Try.ntmps5
    go_upto_region 9 with (first | ((with_reducible refine gate_dst (N := 10) rfl ?_); (try (refine gate_guard (by rfl) ?_; dsimp only)); refine box_event ?hg (N := 10) ?hd (cs := #[.int .i64 a4_0, .int .i64 a4_1, .int .i64 a4_2]) (t := 29) ?hr ?_; (case hd => rfl); (case hg => rfl); (case hr => first | (go_simp; done) | (go_simp; rfl)); intro gb196 hg w15 hbox hb; have n0_ := Aside0.mk (below_step (by repeat (first | (with_reducible first | exact HB.out | apply below_alloc | apply pw_below_drewN | apply below_drew1) | exact HB.out)) hb); have n1_ := Aside0.mk (hbox); have n2_ := Aside0.mk ((by rw [hg]; exact (below_size (by repeat (first | (with_reducible first | exact HB.out | apply below_alloc | apply pw_below_drewN | apply below_drew1) | exact HB.out))) : w.heap.size ≤ gb196)); have n3_ := Aside0.mk ((by rw [hg]; exact (below_size (by repeat (first | (with_reducible first | exact HB.out | apply below_alloc | apply pw_below_drewN | apply below_drew1) | exact HB.out))) : w.heap.size ≤ gb196)); clear HB; have HB := n0_; have BK196 := n1_; have GW196 := n2_; have GE196 := n3_; clear n0_ n1_ n2_ n3_; clear hb hbox hg) | ((with_reducible refine gate_dst (N := 11) rfl ?_); (try (refine gate_guard (by rfl) ?_; dsimp only)); refine box_event ?hg (N := 11) ?hd (cs := #[.int .i64 a5_0, .int .i64 a5_1, .int .i64 a5_2, .int .i64 a5_3, .slice A5_4 l5_4.length c5_4]) (t := 25) ?hr ?_; (case hd => rfl); (case hg => rfl); (case hr => first | (go_simp; done) | (go_simp; rfl)); intro gb197 hg w16 hbox hb; have n0_ := Aside0.mk (blk_below (g := gb196) (o := .cells #[.int .i64 a4_0, .int .i64 a4_1, .int .i64 a4_2] 29 (0, 0)) (by (with_reducible repeat (first | refine blk_drewN ?_ _ | refine blk_drew ?_ | refine blk_alloc ?_ _)); exact BK196.out) hb); have n1_ := Aside0.mk (below_step (by repeat (first | (with_reducible first | exact HB.out | apply below_alloc | apply pw_below_drewN | apply below_drew1 | refine below_set ?_ GE196.out) | exact HB.out)) hb); have n2_ := Aside0.mk (hbox); have n3_ := Aside0.mk ((by rw [hg]; exact (below_size (by repeat (first | (with_reducible first | exact HB.out | apply below_alloc | apply pw_below_drewN | apply below_drew1 | refine below_set ?_ GE196.out) | exact HB.out))) : w.heap.size ≤ gb197)); have n4_ := Aside0.mk ((by rw [hg]; exact (below_size (by repeat (first | (with_reducible first | exact HB.out | apply below_alloc | apply pw_below_drewN | apply below_drew1 | refine below_set ?_ GE196.out) | exact HB.out))) : w.heap.size ≤ gb197)); have n5_ := Aside0.mk ((by rw [hg]; exact Nat.ne_of_lt (blk_lt (g := gb196) (o := .cells #[.int .i64 a4_0, .int .i64 a4_1, .int .i64 a4_2] 29 (0, 0)) (by (with_reducible repeat (first | refine blk_drewN ?_ _ | refine blk_drew ?_ | refine blk_alloc ?_ _)); exact BK196.out)) : gb196 ≠ gb197)); have n6_ := Aside0.mk ((by rw [hg]; exact Nat.ne_of_gt (blk_lt (g := gb196) (o := .cells #[.int .i64 a4_0, .int .i64 a4_1, .int .i64 a4_2] 29 (0, 0)) (by (with_reducible repeat (first | refine blk_drewN ?_ _ | refine blk_drew ?_ | refine blk_alloc ?_ _)); exact BK196.out)) : gb197 ≠ gb196)); clear BK196; clear HB; have BK196 := n0_; have HB := n1_; have BK197 := n2_; have GW197 := n3_; have GE197 := n4_; have NB196_197 := n5_; have NB197_196 := n6_; clear n0_ n1_ n2_ n3_ n4_ n5_ n6_; clear hb hbox hg) | ((with_reducible refine gate_callee (f := 10) rfl ?_); refine goesL_ (some 29) rfl rfl Try.func10 (by kernel_rfl) rfl #[] rfl (by (try simp only [List.map_toArray, List.map_cons, List.map_nil]); first | done | rfl | (simp only [List.length_drop, List.length_take]; rfl)) ?_; (with_reducible refine (airchecklaw36_sane.calls  true _ A7.out).mono ?_); rintro e w17 ⟨rfl, hb⟩; refine ⟨_, rfl, ?_⟩; have n0_ := Aside0.mk (blk_below (g := gb196) (o := .cells #[.int .i64 a4_0, .int .i64 a4_1, .int .i64 a4_2] 29 (0, 0)) (by (with_reducible repeat (first | refine blk_drewN ?_ _ | refine blk_drew ?_ | refine blk_alloc ?_ _)); exact BK196.out) hb); have n1_ := Aside0.mk (blk_below (g := gb197) (o := .cells #[.int .i64 a5_0, .int .i64 a5_1, .int .i64 a5_2, .int .i64 a5_3, .slice A5_4 l5_4.length c5_4] 25 (0, 0)) (by (with_reducible repeat (first | refine blk_drewN ?_ _ | refine blk_drew ?_ | refine blk_alloc ?_ _)); exact BK197.out) hb); have n2_ := Aside0.mk (below_step (by repeat (first | (with_reducible first | exact HB.out | apply below_alloc | apply pw_below_drewN | apply below_drew1 | refine below_set ?_ GE196.out | refine below_set ?_ GE197.out) | exact HB.out)) hb); clear BK196; clear BK197; clear HB; have BK196 := n0_; have BK197 := n1_; have HB := n2_; clear n0_ n1_ n2_; (try clear hb); (try clear hb2); (try clear hk); (try clear hi)) | ((with_reducible refine gate_callee (f := 12) rfl ?_); refine goesL_ (some 33) rfl rfl Try.func12 (by kernel_rfl) rfl #[.slice A0 l0.length c0] rfl (by (try simp only [List.map_toArray, List.map_cons, List.map_nil]); first | done | rfl | (simp only [List.length_drop, List.length_take]; rfl)) ?_; (with_reducible refine (aircheckref36_Codes2.calls k _ _ l0 t199 _ ?side1 ?side2 A9.out).mono ?_); (case side1 => repeat (first | exact (Kd.C_below HR0.out HB.out) | (with_reducible refine Kd.C_alloc ?_ _) | (with_reducible refine Kd.C_drewN ?_ _) | (with_reducible refine Kd.C_drew ?_))); (case side2 => exact HC0.out); rintro e w18 ⟨v200, rfl, ho0, hb⟩; refine ⟨_, rfl, ?_⟩; have n0_ := Aside0.mk (Kd.R_lower ho0 (below_size (by repeat (first | (with_reducible first | exact HB.out | apply below_alloc | apply pw_below_drewN | apply below_drew1 | refine below_set ?_ GE196.out | refine below_set ?_ GE197.out) | exact HB.out)))); have n1_ := Aside0.mk (blk_below (g := gb196) (o := .cells #[.int .i64 a4_0, .int .i64 a4_1, .int .i64 a4_2] 29 (0, 0)) (by (with_reducible repeat (first | refine blk_drewN ?_ _ | refine blk_drew ?_ | refine blk_alloc ?_ _)); exact BK196.out) hb); have n2_ := Aside0.mk (blk_below (g := gb197) (o := .cells #[.int .i64 a5_0, .int .i64 a5_1, .int .i64 a5_2, .int .i64 a5_3, .slice A5_4 l5_4.length c5_4] 25 (0, 0)) (by (with_reducible repeat (first | refine blk_drewN ?_ _ | refine blk_drew ?_ | refine blk_alloc ?_ _)); exact BK197.out) hb); have n3_ := Aside0.mk (below_step (by repeat (first | (with_reducible first | exact HB.out | apply below_alloc | apply pw_below_drewN | apply below_drew1 | refine below_set ?_ GE196.out | refine below_set ?_ GE197.out) | exact HB.out)) hb); clear BK196; clear BK197; clear HB; have HO201 := n0_; have BK196 := n1_; have BK197 := n2_; have HB := n3_; clear n0_ n1_ n2_ n3_; (try clear hb); (try clear hb2); (try clear hk); (try clear hi); (try clear ho0)) | ((with_reducible refine gate_callee (f := 13) rfl ?_); refine goesL_ (some 35) rfl rfl Try.func13 (by kernel_rfl) rfl #[.slice A1 l1.length c1] rfl (by (try simp only [List.map_toArray, List.map_cons, List.map_nil]); first | done | rfl | (simp only [List.length_drop, List.length_take]; rfl)) ?_; (with_reducible refine (aircheckref36_Codes.calls k _ _ l1 t202 _ ?side1 ?side2 A10.out).mono ?_); (case side1 => repeat (first | exact (Kd.C_below HR1.out HB.out) | (with_reducible refine Kd.C_alloc ?_ _) | (with_reducible refine Kd.C_drewN ?_ _) | (with_reducible refine Kd.C_drew ?_))); (case side2 => exact HC1.out); rintro e w19 ⟨v203, rfl, ho0, hb⟩; refine ⟨_, rfl, ?_⟩; have n0_ := Aside0.mk (Kd.R_elder' (by (with_reducible repeat (first | apply Kd.R_alloc | apply Kd.R_drewN | apply Kd.R_drew)); exact HO201.out) (Kd.R_base ho0) hb); have n1_ := Aside0.mk (Kd.R_lower (Kd.R_new' ho0 (Kd.R_lt (by (with_reducible repeat (first | apply Kd.R_alloc | apply Kd.R_drewN | apply Kd.R_drew)); exact HO201.out))) (below_size (by repeat (first | (with_reducible first | exact HB.out | apply below_alloc | apply pw_below_drewN | apply below_drew1 | refine below_set ?_ GE196.out | refine below_set ?_ GE197.out) | exact HB.out)))); have n2_ := Aside0.mk (blk_below (g := gb196) (o := .cells #[.int .i64 a4_0, .int .i64 a4_1, .int .i64 a4_2] 29 (0, 0)) (by (with_reducible repeat (first | refine blk_drewN ?_ _ | refine blk_drew ?_ | refine blk_alloc ?_ _)); exact BK196.out) hb); have n3_ := Aside0.mk (blk_below (g := gb197) (o := .cells #[.int .i64 a5_0, .int .i64 a5_1, .int .i64 a5_2, .int .i64 a5_3, .slice A5_4 l5_4.length c5_4] 25 (0, 0)) (by (with_reducible repeat (first | refine blk_drewN ?_ _ | refine blk_drew ?_ | refine blk_alloc ?_ _)); exact BK197.out) hb); have n4_ := Aside0.mk (below_step (by repeat (first | (with_reducible first | exact HB.out | apply below_alloc | apply pw_below_drewN | apply below_drew1 | refine below_set ?_ GE196.out | refine below_set ?_ GE197.out) | exact HB.out)) hb); clear HO201; clear BK196; clear BK197; clear HB; have HO201 := n0_; have HO204 := n1_; have BK196 := n2_; have BK197 := n3_; have HB := n4_; clear n0_ n1_ n2_ n3_ n4_; (try clear hb); (try clear hb2); (try clear hk); (try clear hi); (try clear ho0); obtain ⟨Ao20, co20, eo20⟩ := Kd.R_slice HO201.out; subst eo20; obtain ⟨Ao21, co21, eo21⟩ := Kd.R_slice HO204.out; subst eo21) | ((with_reducible refine gate_callee (f := 26) rfl ?_); refine goesL_ (some 39) rfl rfl Try.func26 (by kernel_rfl) rfl #[.slice Ao20 t199.length co20, .slice Ao21 t202.length co21] rfl (by (try simp only [List.map_toArray, List.map_cons, List.map_nil]); first | done | rfl | (simp only [List.length_drop, List.length_take]; rfl)) ?_; (with_reducible refine (fingerprint_Table.calls _ _ t199 _ _ t202 t205 t206 _ ?side1 ?side2 ?side3 ?side4 A11.out).mono ?_); (case side1 => repeat (first | exact (Kd.R_reads' HO201.out).2.2 | (with_reducible refine Kd.C_alloc ?_ _) | (with_reducible refine Kd.C_drewN ?_ _) | (with_reducible refine Kd.C_drew ?_))); (case side2 => exact (Kd.R_reads' HO201.out).2.1); (case side3 => repeat (first | exact (Kd.R_reads' HO204.out).2.2 | (with_reducible refine Kd.C_alloc ?_ _) | (with_reducible refine Kd.C_drewN ?_ _) | (with_reducible refine Kd.C_drew ?_))); (case side4 => exact (Kd.R_reads' HO204.out).2.1); rintro e w22 ⟨v207, rfl, ho0, hb⟩; refine ⟨_, rfl, ?_⟩; have n0_ := Aside0.mk (Kd.R_below (by (with_reducible repeat (first | apply Kd.R_alloc | apply Kd.R_drewN | apply Kd.R_drew)); exact HO201.out) hb); have n1_ := Aside0.mk (Kd.R_below (by (with_reducible repeat (first | apply Kd.R_alloc | apply Kd.R_drewN | apply Kd.R_drew)); exact HO204.out) hb); have n2_ := Aside0.mk (Kd.S_lower (Kd.S_new' (Kd.S_new' ho0 (Kd.R_lt (by (with_reducible repeat (first | apply Kd.R_alloc | apply Kd.R_drewN | apply Kd.R_drew)); exact HO201.out))) (Kd.R_lt (by (with_reducible repeat (first | apply Kd.R_alloc | apply Kd.R_drewN | apply Kd.R_drew)); exact HO204.out))) (below_size (by repeat (first | (with_reducible first | exact HB.out | apply below_alloc | apply pw_below_drewN | apply below_drew1 | refine below_set ?_ GE196.out | refine below_set ?_ GE197.out) | exact HB.out)))); have n3_ := Aside0.mk (blk_below (g := gb196) (o := .cells #[.int .i64 a4_0, .int .i64 a4_1, .int .i64 a4_2] 29 (0, 0)) (by (with_reducible repeat (first | refine blk_drewN ?_ _ | refine blk_drew ?_ | refine blk_alloc ?_ _)); exact BK196.out) hb); have n4_ := Aside0.mk (blk_below (g := gb197) (o := .cells #[.int .i64 a5_0, .int .i64 a5_1, .int .i64 a5_2, .int .i64 a5_3, .slice A5_4 l5_4.length c5_4] 25 (0, 0)) (by (with_reducible repeat (first | refine blk_drewN ?_ _ | refine blk_drew ?_ | refine blk_alloc ?_ _)); exact BK197.out) hb); have n5_ := Aside0.mk (below_step (by repeat (first | (with_reducible first | exact HB.out | apply below_alloc | apply pw_below_drewN | apply below_drew1 | refine below_set ?_ GE196.out | refine below_set ?_ GE197.out) | exact HB.out)) hb); clear HO201; clear HO204; clear BK196; clear BK197; clear HB; have HO201 := n0_; have HO204 := n1_; have HO208 := n2_; have BK196 := n3_; have BK197 := n4_; have HB := n5_; clear n0_ n1_ n2_ n3_ n4_ n5_; (try clear hb); (try clear hb2); (try clear hk); (try clear hi); (try clear ho0); obtain ⟨Ao23, co23, eo23⟩ := Kd.S_slice HO208.out; subst eo23) | ((with_reducible refine gate_callee (f := 31) rfl ?_); refine goesL_ (some 46) rfl rfl Try.func31 (by kernel_rfl) rfl #[.slice Ao20 t199.length co20, .slice Ao21 t202.length co21, .slice Ao23 t205.length co23] rfl (by (try simp only [List.map_toArray, List.map_cons, List.map_nil]); first | done | rfl | (simp only [List.length_drop, List.length_take]; rfl)) ?_; (with_reducible refine (fingerprint_Bound.calls k _ _ t199 _ _ t202 _ _ t205 t209 t210 _ ?side1 ?side2 ?side3 ?side4 ?side5 ?side6 A12.out).mono ?_); (case side1 => repeat (first | exact (Kd.R_reads' HO201.out).2.2 | (with_reducible refine Kd.C_alloc ?_ _) | (with_reducible refine Kd.C_drewN ?_ _) | (with_reducible refine Kd.C_drew ?_))); (case side2 => exact (Kd.R_reads' HO201.out).2.1); (case side3 => repeat (first | exact (Kd.R_reads' HO204.out).2.2 | (with_reducible refine Kd.C_alloc ?_ _) | (with_reducible refine Kd.C_drewN ?_ _) | (with_reducible refine Kd.C_drew ?_))); (case side4 => exact (Kd.R_reads' HO204.out).2.1); (case side5 => repeat (first | exact (Kd.S_reads' HO208.out).2.2 | (with_reducible refine Kd.C_alloc ?_ _) | (with_reducible refine Kd.C_drewN ?_ _) | (with_reducible refine Kd.C_drew ?_))); (case side6 => exact (Kd.S_reads' HO208.out).2.1); rintro e w24 ⟨rfl, hb⟩; refine ⟨_, rfl, ?_⟩; have n0_ := Aside0.mk (Kd.R_below (by (with_reducible repeat (first | apply Kd.R_alloc | apply Kd.R_drewN | apply Kd.R_drew)); exact HO201.out) hb); have n1_ := Aside0.mk (Kd.R_below (by (with_reducible repeat (first | apply Kd.R_alloc | apply Kd.R_drewN | apply Kd.R_drew)); exact HO204.out) hb); have n2_ := Aside0.mk (Kd.S_below (by (with_reducible repeat (first | apply Kd.S_alloc | apply Kd.S_drewN | apply Kd.S_drew)); exact HO208.out) hb); have n3_ := Aside0.mk (blk_below (g := gb196) (o := .cells #[.int .i64 a4_0, .int .i64 a4_1, .int .i64 a4_2] 29 (0, 0)) (by (with_reducible repeat (first | refine blk_drewN ?_ _ | refine blk_drew ?_ | refine blk_alloc ?_ _)); exact BK196.out) hb); have n4_ := Aside0.mk (blk_below (g := gb197) (o := .cells #[.int .i64 a5_0, .int .i64 a5_1, .int .i64 a5_2, .int .i64 a5_3, .slice A5_4 l5_4.length c5_4] 25 (0, 0)) (by (with_reducible repeat (first | refine blk_drewN ?_ _ | refine blk_drew ?_ | refine blk_alloc ?_ _)); exact BK197.out) hb); have n5_ := Aside0.mk (below_step (by repeat (first | (with_reducible first | exact HB.out | apply below_alloc | apply pw_below_drewN | apply below_drew1 | refine below_set ?_ GE196.out | refine below_set ?_ GE197.out) | exact HB.out)) hb); clear HO201; clear HO204; clear HO208; clear BK196; clear BK197; clear HB; have HO201 := n0_; have HO204 := n1_; have HO208 := n2_; have BK196 := n3_; have BK197 := n4_; have HB := n5_; clear n0_ n1_ n2_ n3_ n4_ n5_; (try clear hb); (try clear hb2); (try clear hk); (try clear hi)) | ((with_reducible refine gate_callee (f := 23) rfl ?_); refine goesL_ (some 52) rfl rfl Try.func23 (by kernel_rfl) rfl #[.slice Ao20 t199.length co20, .slice Ao21 t202.length co21] rfl (by (try simp only [List.map_toArray, List.map_cons, List.map_nil]); first | done | rfl | (simp only [List.length_drop, List.length_take]; rfl)) ?_; (with_reducible refine (fingerprint_Align.calls k _ _ t199 _ _ t202 t211 t212 t213 t214 t215 t218 _ ?side1 ?side2 ?side3 ?side4 A13.out).mono ?_); (case side1 => repeat (first | exact (Kd.R_reads' HO201.out).2.2 | (with_reducible refine Kd.C_alloc ?_ _) | (with_reducible refine Kd.C_drewN ?_ _) | (with_reducible refine Kd.C_drew ?_))); (case side2 => exact (Kd.R_reads' HO201.out).2.1); (case side3 => repeat (first | exact (Kd.R_reads' HO204.out).2.2 | (with_reducible refine Kd.C_alloc ?_ _) | (with_reducible refine Kd.C_drewN ?_ _) | (with_reducible refine Kd.C_drew ?_))); (case side4 => exact (Kd.R_reads' HO204.out).2.1); rintro e w25 ⟨v216, rfl, ho0, hb⟩; refine ⟨_, rfl, ?_⟩; have n0_ := Aside0.mk (Kd.R_elder' (by (with_reducible repeat (first | apply Kd.R_alloc | apply Kd.R_drewN | apply Kd.R_drew)); exact HO201.out) (Kd.R_base ho0) hb); have n1_ := Aside0.mk (Kd.R_elder' (by (with_reducible repeat (first | apply Kd.R_alloc | apply Kd.R_drewN | apply Kd.R_drew)); exact HO204.out) (Kd.R_base ho0) hb); have n2_ := Aside0.mk (Kd.S_elder' (by (with_reducible repeat (first | apply Kd.S_alloc | apply Kd.S_drewN | apply Kd.S_drew)); exact HO208.out) (Kd.R_base ho0) hb); have n3_ := Aside0.mk (Kd.R_lower (Kd.R_new' (Kd.R_new' ho0 (Kd.R_lt (by (with_reducible repeat (first | apply Kd.R_alloc | apply Kd.R_drewN | apply Kd.R_drew)); exact HO201.out))) (Kd.R_lt (by (with_reducible repeat (first | apply Kd.R_alloc | apply Kd.R_drewN | apply Kd.R_drew)); exact HO204.out))) (below_size (by repeat (first | (with_reducible first | exact HB.out | apply below_alloc | apply pw_below_drewN | apply below_drew1 | refine below_set ?_ GE196.out | refine below_set ?_ GE197.out) | exact HB.out)))); have n4_ := Aside0.mk (blk_below (g := gb196) (o := .cells #[.int .i64 a4_0, .int .i64 a4_1, .int .i64 a4_2] 29 (0, 0)) (by (with_reducible repeat (first | refine blk_drewN ?_ _ | refine blk_drew ?_ | refine blk_alloc ?_ _)); exact BK196.out) hb); have n5_ := Aside0.mk (blk_below (g := gb197) (o := .cells #[.int .i64 a5_0, .int .i64 a5_1, .int .i64 a5_2, .int .i64 a5_3, .slice A5_4 l5_4.length c5_4] 25 (0, 0)) (by (with_reducible repeat (first | refine blk_drewN ?_ _ | refine blk_drew ?_ | refine blk_alloc ?_ _)); exact BK197.out) hb); have n6_ := Aside0.mk (below_step (by repeat (first | (with_reducible first | exact HB.out | apply below_alloc | apply pw_below_drewN | apply below_drew1 | refine below_set ?_ GE196.out | refine below_set ?_ GE197.out) | exact HB.out)) hb); clear HO201; clear HO204; clear HO208; clear BK196; clear BK197; clear HB; have HO201 := n0_; have HO204 := n1_; have HO208 := n2_; have HO217 := n3_; have BK196 := n4_; have BK197 := n5_; have HB := n6_; clear n0_ n1_ n2_ n3_ n4_ n5_ n6_; (try clear hb); (try clear hb2); (try clear hk); (try clear hi); (try clear ho0)) | ((with_reducible refine gate_dst (N := 20) rfl ?_); (try (refine gate_guard (by rfl) ?_; dsimp only)); refine box_event ?hg (N := 20) ?hd (cs := #[.int .i64 0, .int .i64 0, .int .i64 0, .int .i64 0, .slice none 0 0]) (t := 25) ?hr ?_; (case hd => rfl); (case hg => rfl); (case hr => first | (go_simp; done) | (go_simp; rfl)); intro gb219 hg w26 hbox hb; have n0_ := Aside0.mk (Kd.R_below (by (with_reducible repeat (first | apply Kd.R_alloc | apply Kd.R_drewN | apply Kd.R_drew)); exact HO201.out) hb); have n1_ := Aside0.mk (Kd.R_below (by (with_reducible repeat (first | apply Kd.R_alloc | apply Kd.R_drewN | apply Kd.R_drew)); exact HO204.out) hb); have n2_ := Aside0.mk (Kd.S_below (by (with_reducible repeat (first | apply Kd.S_alloc | apply Kd.S_drewN | apply Kd.S_drew)); exact HO208.out) hb); have n3_ := Aside0.mk (Kd.R_below (by (with_reducible repeat (first | apply Kd.R_alloc | apply Kd.R_drewN | apply Kd.R_drew)); exact HO217.out) hb); have n4_ := Aside0.mk (blk_below (g := gb196) (o := .cells #[.int .i64 a4_0, .int .i64 a4_1, .int .i64 a4_2] 29 (0, 0)) (by (with_reducible repeat (first | refine blk_drewN ?_ _ | refine blk_drew ?_ | refine blk_alloc ?_ _)); exact BK196.out) hb); have n5_ := Aside0.mk (blk_below (g := gb197) (o := .cells #[.int .i64 a5_0, .int .i64 a5_1, .int .i64 a5_2, .int .i64 a5_3, .slice A5_4 l5_4.length c5_4] 25 (0, 0)) (by (with_reducible repeat (first | refine blk_drewN ?_ _ | refine blk_drew ?_ | refine blk_alloc ?_ _)); exact BK197.out) hb); have n6_ := Aside0.mk (below_step (by repeat (first | (with_reducible first | exact HB.out | apply below_alloc | apply pw_below_drewN | apply below_drew1 | refine below_set ?_ GE196.out | refine below_set ?_ GE197.out) | exact HB.out)) hb); have n7_ := Aside0.mk (hbox); have n8_ := Aside0.mk ((by rw [hg]; exact (below_size (by repeat (first | (with_reducible first | exact HB.out | apply below_alloc | apply pw_below_drewN | apply below_drew1 | refine below_set ?_ GE196.out | refine below_set ?_ GE197.out) | exact HB.out))) : w.heap.size ≤ gb219)); have n9_ := Aside0.mk ((by rw [hg]; exact (below_size (by repeat (first | (with_reducible first | exact HB.out | apply below_alloc | apply pw_below_drewN | apply below_drew1 | refine below_set ?_ GE196.out | refine below_set ?_ GE197.out) | exact HB.out))) : w.heap.size ≤ gb219)); have n10_ := Aside0.mk ((by rw [hg]; exact Nat.ne_of_lt (blk_lt (g := gb196) (o := .cells #[.int .i64 a4_0, .int .i64 a4_1, .int .i64 a4_2] 29 (0, 0)) (by (with_reducible repeat (first | refine blk_drewN ?_ _ | refine blk_drew ?_ | refine blk_alloc ?_ _)); exact BK196.out)) : gb196 ≠ gb219)); have n11_ := Aside0.mk ((by rw [hg]; exact Nat.ne_of_gt (blk_lt (g := gb196) (o := .cells #[.int .i64 a4_0, .int .i64 a4_1, .int .i64 a4_2] 29 (0, 0)) (by (with_reducible repeat (first | refine blk_drewN ?_ _ | refine blk_drew ?_ | refine blk_alloc ?_ _)); exact BK196.out)) : gb219 ≠ gb196)); have n12_ := Aside0.mk ((by rw [hg]; exact Nat.ne_of_lt (blk_lt (g := gb197) (o := .cells #[.int .i64 a5_0, .int .i64 a5_1, .int .i64 a5_2, .int .i64 a5_3, .slice A5_4 l5_4.length c5_4] 25 (0, 0)) (by (with_reducible repeat (first | refine blk_drewN ?_ _ | refine blk_drew ?_ | refine blk_alloc ?_ _)); exact BK197.out)) : gb197 ≠ gb219)); have n13_ := Aside0.mk ((by rw [hg]; exact Nat.ne_of_gt (blk_lt (g := gb197) (o := .cells #[.int .i64 a5_0, .int .i64 a5_1, .int .i64 a5_2, .int .i64 a5_3, .slice A5_4 l5_4.length c5_4] 25 (0, 0)) (by (with_reducible repeat (first | refine blk_drewN ?_ _ | refine blk_drew ?_ | refine blk_alloc ?_ _)); exact BK197.out)) : gb219 ≠ gb197)); clear HO201; clear HO204; clear HO208; clear HO217; clear BK196; clear BK197; clear HB; have HO201 := n0_; have HO204 := n1_; have HO208 := n2_; have HO217 := n3_; have BK196 := n4_; have BK197 := n5_; have HB := n6_; have BK219 := n7_; have GW219 := n8_; have GE219 := n9_; have NB196_219 := n10_; have NB219_196 := n11_; have NB197_219 := n12_; have NB219_197 := n13_; clear n0_ n1_ n2_ n3_ n4_ n5_ n6_ n7_ n8_ n9_ n10_ n11_ n12_ n13_; clear hb hbox hg; have hnb27 := NB219_196.out; have hnc27 := NB196_219.out; have hnb28 := NB219_197.out; have hnc28 := NB197_219.out; have hcz29_0 : w26.cell? ⟨gb219, 0, none⟩ = some (.int .i64 0) := (blk_cell BK219.out 0).trans rfl; have hcz29_1 : w26.cell? ⟨gb219, 1, none⟩ = some (.int .i64 0) := (blk_cell BK219.out 1).trans rfl; have hcz29_2 : w26.cell? ⟨gb219, 2, none⟩ = some (.int .i64 0) := (blk_cell BK219.out 2).trans rfl; have hcz29_3 : w26.cell? ⟨gb219, 3, none⟩ = some (.int .i64 0) := (blk_cell BK219.out 3).trans rfl; have hcz29_4 : w26.cell? ⟨gb219, 4, none⟩ = some (.slice none 0 0) := (blk_cell BK219.out 4).trans rfl; have hfz29_0 := blk_frozen BK219.out 0; have hfz29_1 := blk_frozen BK219.out 1; have hfz29_2 := blk_frozen BK219.out 2; have hfz29_3 := blk_frozen BK219.out 3; have hfz29_4 := blk_frozen BK219.out 4; obtain ⟨Ao30, co30, eo30⟩ := Kd.R_slice HO217.out; subst eo30))
    (try simp only [Act.put, List.setIfInBounds_toArray, List.set_cons_zero, List.set_cons_succ])
    go_cut [78] (fun v78 wc => ∃ (kq : Nat) (x78_13 : Bool), v78 = .bool x78_13 ∧ Aside0 (airchecklaw36_FingerprintBounds.j0 kq a2 a3 t199 t202 t205 t209 x78_13 a4_0 a4_1 a4_2 a5_0 a5_1 a5_2 a5_3 l5_4 = some r) ∧ Aside0 (kq ≤ k) ∧ Aside0 (Kd.R (Kd.int .i64) 3 wc w.heap.size (fun k_ => some k_ ≠ ((.slice Ao21 t202.length co21) : Value).ownBlock ∧ some k_ ≠ ((.slice Ao30 t215.length co30) : Value).ownBlock) (.slice Ao20 t199.length co20) t199) ∧ Aside0 (Kd.R (Kd.int .i64) 3 wc w.heap.size (fun k_ => some k_ ≠ ((.slice Ao20 t199.length co20) : Value).ownBlock ∧ some k_ ≠ ((.slice Ao30 t215.length co30) : Value).ownBlock) (.slice Ao21 t202.length co21) t202) ∧ Aside0 (Kd.S (Kd.slice 3 (Kd.int .i64)) 22 wc w.heap.size (fun k_ => some k_ ≠ ((.slice Ao20 t199.length co20) : Value).ownBlock ∧ some k_ ≠ ((.slice Ao21 t202.length co21) : Value).ownBlock ∧ some k_ ≠ ((.slice Ao30 t215.length co30) : Value).ownBlock) (.slice Ao23 t205.length co23) t205) ∧ Aside0 (Kd.R (Kd.int .i64) 3 wc w.heap.size (fun k_ => some k_ ≠ ((.slice Ao20 t199.length co20) : Value).ownBlock ∧ some k_ ≠ ((.slice Ao21 t202.length co21) : Value).ownBlock) (.slice Ao30 t215.length co30) t215) ∧ Aside0 (wc.heap[gb196]? = some (.cells #[.int .i64 a4_0, .int .i64 a4_1, .int .i64 a4_2] 29 (0, 0))) ∧ Aside0 (wc.heap[gb197]? = some (.cells #[.int .i64 a5_0, .int .i64 a5_1, .int .i64 a5_2, .int .i64 a5_3, (.slice A5_4 l5_4.length c5_4)] 25 (0, 0))) ∧ Aside0 (wc.heap[gb219]? = some (.cells #[.int .i64 t211, .int .i64 t212, .int .i64 t213, .int .i64 t214, (.slice Ao30 t215.length co30)] 25 (0, 0))) ∧ Aside0 (Below w.heap.size w wc))
    case first =>
      have H := HC14.out
      clear HC14
      by_cases c31 : t206 = 0
      · rw [if_pos c31] at H
        have c31b0 : (t206 == 0) = true := beq_iff_eq.mpr c31
        have c31b1 : (t206 != 0) = false := bne_eq_false_iff_eq.mpr c31
        clear c31
        (first | rw [c31b0] | (simp only [i64_w, i32_w]; rw [c31b0]) | skip)
        by_cases c32 : t218 = 0
        · rw [if_pos c32] at H
          have c32b0 : (t218 == 0) = true := beq_iff_eq.mpr c32
          have c32b1 : (t218 != 0) = false := bne_eq_false_iff_eq.mpr c32
          clear c32
          by_cases c33 : t210 = true
          · subst c33
            have H1 : (if t209 = t214 then (airchecklaw36_FingerprintBounds.j0 k a2 a3 t199 t202 t205 t209 ((t205.length : Int) != (wrap64 ((t199.length : Int) + 1))) a4_0 a4_1 a4_2 a5_0 a5_1 a5_2 a5_3 l5_4) else (airchecklaw36_FingerprintBounds.j0 k a2 a3 t199 t202 t205 t209 true a4_0 a4_1 a4_2 a5_0 a5_1 a5_2 a5_3 l5_4)) = some r := by rw [if_pos rfl] at H; exact H
            clear H
            have H := H1
            clear H1
            by_cases c34 : t209 = t214
            · rw [if_pos c34] at H
              have c34b0 : (t209 == t214) = true := beq_iff_eq.mpr c34
              have c34b1 : (t209 != t214) = false := bne_eq_false_iff_eq.mpr c34
              clear c34
              have H' := Aside0.mk H
              clear H
              have hnb35 := NB219_196.out
              have hnc35 := NB196_219.out
              have hnb36 := NB219_197.out
              have hnc36 := NB197_219.out
              have hcz37_0 : w26.cell? ⟨gb219, 0, none⟩ = some (.int .i64 0) := (blk_cell BK219.out 0).trans rfl
              have hcz37_1 : w26.cell? ⟨gb219, 1, none⟩ = some (.int .i64 0) := (blk_cell BK219.out 1).trans rfl
              have hcz37_2 : w26.cell? ⟨gb219, 2, none⟩ = some (.int .i64 0) := (blk_cell BK219.out 2).trans rfl
              have hcz37_3 : w26.cell? ⟨gb219, 3, none⟩ = some (.int .i64 0) := (blk_cell BK219.out 3).trans rfl
              have hcz37_4 : w26.cell? ⟨gb219, 4, none⟩ = some (.slice none 0 0) := (blk_cell BK219.out 4).trans rfl
              have hfz37_0 := blk_frozen BK219.out 0
              have hfz37_1 := blk_frozen BK219.out 1
              have hfz37_2 := blk_frozen BK219.out 2
              have hfz37_3 := blk_frozen BK219.out 3
              have hfz37_4 := blk_frozen BK219.out 4
              go_wp2
              go_meet
              case rel => exact ⟨_, (((t205.length : Int) != (wrap64 ((t199.length : Int) + 1)))), (by first | rfl | (simp; done) | (simp [*]; done)), H', ⟨by first | omega | exact Nat.le_refl _⟩, ⟨by (with_reducible repeat (first | apply Kd.R_alloc | apply Kd.R_drewN | apply Kd.R_drew)); exact Kd.R_mono (Kd.R_far (p := ⟨gb219, 4, none⟩) (Kd.R_far (p := ⟨gb219, 3, none⟩) (Kd.R_far (p := ⟨gb219, 2, none⟩) (Kd.R_far (p := ⟨gb219, 1, none⟩) (Kd.R_far (p := ⟨gb219, 0, none⟩) (Kd.R_types HO201.out BK219.out (by decide)) (fun _ hk => hk.2) (.int .i64 t211)) (fun _ hk => hk.2) (.int .i64 t212)) (fun _ hk => hk.2) (.int .i64 t213)) (fun _ hk => hk.2) (.int .i64 t214)) (fun _ hk => hk.2) (.slice Ao30 t215.length co30)) (fun _ hk => ⟨hk.1.1.2, hk.1.2⟩)⟩, ⟨by (with_reducible repeat (first | apply Kd.R_alloc | apply Kd.R_drewN | apply Kd.R_drew)); exact Kd.R_mono (Kd.R_far (p := ⟨gb219, 4, none⟩) (Kd.R_far (p := ⟨gb219, 3, none⟩) (Kd.R_far (p := ⟨gb219, 2, none⟩) (Kd.R_far (p := ⟨gb219, 1, none⟩) (Kd.R_far (p := ⟨gb219, 0, none⟩) (Kd.R_types HO204.out BK219.out (by decide)) (fun _ hk => hk.2) (.int .i64 t211)) (fun _ hk => hk.2) (.int .i64 t212)) (fun _ hk => hk.2) (.int .i64 t213)) (fun _ hk => hk.2) (.int .i64 t214)) (fun _ hk => hk.2) (.slice Ao30 t215.length co30)) (fun _ hk => ⟨hk.1.1.2, hk.1.2⟩)⟩, ⟨by (with_reducible repeat (first | apply Kd.S_alloc | apply Kd.S_drewN | apply Kd.S_drew)); exact Kd.S_mono (Kd.S_far (p := ⟨gb219, 4, none⟩) (Kd.S_far (p := ⟨gb219, 3, none⟩) (Kd.S_far (p := ⟨gb219, 2, none⟩) (Kd.S_far (p := ⟨gb219, 1, none⟩) (Kd.S_far (p := ⟨gb219, 0, none⟩) (Kd.S_types HO208.out BK219.out (by decide)) (fun _ hk => hk.2) (.int .i64 t211)) (fun _ hk => hk.2) (.int .i64 t212)) (fun _ hk => hk.2) (.int .i64 t213)) (fun _ hk => hk.2) (.int .i64 t214)) (fun _ hk => hk.2) (.slice Ao30 t215.length co30)) (fun _ hk => ⟨hk.1.1.1.2, ⟨hk.1.1.2, hk.1.2⟩⟩)⟩, ⟨by (with_reducible repeat (first | apply Kd.R_alloc | apply Kd.R_drewN | apply Kd.R_drew)); exact Kd.R_mono (Kd.R_far (p := ⟨gb219, 4, none⟩) (Kd.R_far (p := ⟨gb219, 3, none⟩) (Kd.R_far (p := ⟨gb219, 2, none⟩) (Kd.R_far (p := ⟨gb219, 1, none⟩) (Kd.R_far (p := ⟨gb219, 0, none⟩) (Kd.R_types HO217.out BK219.out (by decide)) (fun _ hk => hk.2) (.int .i64 t211)) (fun _ hk => hk.2) (.int .i64 t212)) (fun _ hk => hk.2) (.int .i64 t213)) (fun _ hk => hk.2) (.int .i64 t214)) (fun _ hk => hk.2) (.slice Ao30 t215.length co30)) (fun _ hk => ⟨hk.1.1.2, hk.1.2⟩)⟩, ⟨by (with_reducible repeat (first | refine blk_drewN ?_ _ | refine blk_drew ?_ | refine blk_alloc ?_ _)); refine blk_far ?_ NB196_219.out _; (with_reducible repeat (first | refine blk_drewN ?_ _ | refine blk_drew ?_ | refine blk_alloc ?_ _)); refine blk_far ?_ NB196_219.out _; (with_reducible repeat (first | refine blk_drewN ?_ _ | refine blk_drew ?_ | refine blk_alloc ?_ _)); refine blk_far ?_ NB196_219.out _; (with_reducible repeat (first | refine blk_drewN ?_ _ | refine blk_drew ?_ | refine blk_alloc ?_ _)); refine blk_far ?_ NB196_219.out _; (with_reducible repeat (first | refine blk_drewN ?_ _ | refine blk_drew ?_ | refine blk_alloc ?_ _)); refine blk_far ?_ NB196_219.out _; (with_reducible repeat (first | refine blk_drewN ?_ _ | refine blk_drew ?_ | refine blk_alloc ?_ _)); exact BK196.out⟩, ⟨by (with_reducible repeat (first | refine blk_drewN ?_ _ | refine blk_drew ?_ | refine blk_alloc ?_ _)); refine blk_far ?_ NB197_219.out _; (with_reducible repeat (first | refine blk_drewN ?_ _ | refine blk_drew ?_ | refine blk_alloc ?_ _)); refine blk_far ?_ NB197_219.out _; (with_reducible repeat (first | refine blk_drewN ?_ _ | refine blk_drew ?_ | refine blk_alloc ?_ _)); refine blk_far ?_ NB197_219.out _; (with_reducible repeat (first | refine blk_drewN ?_ _ | refine blk_drew ?_ | refine blk_alloc ?_ _)); refine blk_far ?_ NB197_219.out _; (with_reducible repeat (first | refine blk_drewN ?_ _ | refine blk_drew ?_ | refine blk_alloc ?_ _)); refine blk_far ?_ NB197_219.out _; (with_reducible repeat (first | refine blk_drewN ?_ _ | refine blk_drew ?_ | refine blk_alloc ?_ _)); exact BK197.out⟩, ⟨by (with_reducible repeat (first | refine blk_drewN ?_ _ | refine blk_drew ?_ | refine blk_alloc ?_ _)); refine blk_put (cs := #[.int .i64 t211, .int .i64 t212, .int .i64 t213, .int .i64 t214, .slice none 0 0]) ?_ 4 _ rfl; (with_reducible repeat (first | refine blk_drewN ?_ _ | refine blk_drew ?_ | refine blk_alloc ?_ _)); refine blk_put (cs := #[.int .i64 t211, .int .i64 t212, .int .i64 t213, .int .i64 0, .slice none 0 0]) ?_ 3 _ rfl; (with_reducible repeat (first | refine blk_drewN ?_ _ | refine blk_drew ?_ | refine blk_alloc ?_ _)); refine blk_put (cs := #[.int .i64 t211, .int .i64 t212, .int .i64 0, .int .i64 0, .slice none 0 0]) ?_ 2 _ rfl; (with_reducible repeat (first | refine blk_drewN ?_ _ | refine blk_drew ?_ | refine blk_alloc ?_ _)); refine blk_put (cs := #[.int .i64 t211, .int .i64 0, .int .i64 0, .int .i64 0, .slice none 0 0]) ?_ 1 _ rfl; (with_reducible repeat (first | refine blk_drewN ?_ _ | refine blk_drew ?_ | refine blk_alloc ?_ _)); refine blk_put (cs := #[.int .i64 0, .int .i64 0, .int .i64 0, .int .i64 0, .slice none 0 0]) ?_ 0 _ rfl; (with_reducible repeat (first | refine blk_drewN ?_ _ | refine blk_drew ?_ | refine blk_alloc ?_ _)); exact BK219.out⟩, ⟨by repeat (first | (with_reducible first | exact HB.out | apply below_alloc | apply pw_below_drewN | apply below_drew1 | refine below_set ?_ GE196.out | refine below_set ?_ GE197.out | refine below_set ?_ GE219.out) | exact HB.out)⟩⟩
            · rw [if_neg c34] at H
              have c34b0 : (t209 == t214) = false := beq_eq_false_iff_ne.mpr c34
              have c34b1 : (t209 != t214) = true := bne_iff_ne.mpr c34
              have H' := Aside0.mk H
              clear H
              have hnb38 := NB219_196.out
              have hnc38 := NB196_219.out
              have hnb39 := NB219_197.out
              have hnc39 := NB197_219.out
              have hcz40_0 : w26.cell? ⟨gb219, 0, none⟩ = some (.int .i64 0) := (blk_cell BK219.out 0).trans rfl
              have hcz40_1 : w26.cell? ⟨gb219, 1, none⟩ = some (.int .i64 0) := (blk_cell BK219.out 1).trans rfl
              have hcz40_2 : w26.cell? ⟨gb219, 2, none⟩ = some (.int .i64 0) := (blk_cell BK219.out 2).trans rfl
              have hcz40_3 : w26.cell? ⟨gb219, 3, none⟩ = some (.int .i64 0) := (blk_cell BK219.out 3).trans rfl
              have hcz40_4 : w26.cell? ⟨gb219, 4, none⟩ = some (.slice none 0 0) := (blk_cell BK219.out 4).trans rfl
              have hfz40_0 := blk_frozen BK219.out 0
              have hfz40_1 := blk_frozen BK219.out 1
              have hfz40_2 := blk_frozen BK219.out 2
              have hfz40_3 := blk_frozen BK219.out 3
              have hfz40_4 := blk_frozen BK219.out 4
              go_wp2
              go_meet
              case rel => exact ⟨_, (true), (by first | rfl | (simp; done) | (simp [*]; done)), H', ⟨by first | omega | exact Nat.le_refl _⟩, ⟨by (with_reducible repeat (first | apply Kd.R_alloc | apply Kd.R_drewN | apply Kd.R_drew)); exact Kd.R_mono (Kd.R_far (p := ⟨gb219, 4, none⟩) (Kd.R_far (p := ⟨gb219, 3, none⟩) (Kd.R_far (p := ⟨gb219, 2, none⟩) (Kd.R_far (p := ⟨gb219, 1, none⟩) (Kd.R_far (p := ⟨gb219, 0, none⟩) (Kd.R_types HO201.out BK219.out (by decide)) (fun _ hk => hk.2) (.int .i64 t211)) (fun _ hk => hk.2) (.int .i64 t212)) (fun _ hk => hk.2) (.int .i64 t213)) (fun _ hk => hk.2) (.int .i64 t214)) (fun _ hk => hk.2) (.slice Ao30 t215.length co30)) (fun _ hk => ⟨hk.1.1.2, hk.1.2⟩)⟩, ⟨by (with_reducible repeat (first | apply Kd.R_alloc | apply Kd.R_drewN | apply Kd.R_drew)); exact Kd.R_mono (Kd.R_far (p := ⟨gb219, 4, none⟩) (Kd.R_far (p := ⟨gb219, 3, none⟩) (Kd.R_far (p := ⟨gb219, 2, none⟩) (Kd.R_far (p := ⟨gb219, 1, none⟩) (Kd.R_far (p := ⟨gb219, 0, none⟩) (Kd.R_types HO204.out BK219.out (by decide)) (fun _ hk => hk.2) (.int .i64 t211)) (fun _ hk => hk.2) (.int .i64 t212)) (fun _ hk => hk.2) (.int .i64 t213)) (fun _ hk => hk.2) (.int .i64 t214)) (fun _ hk => hk.2) (.slice Ao30 t215.length co30)) (fun _ hk => ⟨hk.1.1.2, hk.1.2⟩)⟩, ⟨by (with_reducible repeat (first | apply Kd.S_alloc | apply Kd.S_drewN | apply Kd.S_drew)); exact Kd.S_mono (Kd.S_far (p := ⟨gb219, 4, none⟩) (Kd.S_far (p := ⟨gb219, 3, none⟩) (Kd.S_far (p := ⟨gb219, 2, none⟩) (Kd.S_far (p := ⟨gb219, 1, none⟩) (Kd.S_far (p := ⟨gb219, 0, none⟩) (Kd.S_types HO208.out BK219.out (by decide)) (fun _ hk => hk.2) (.int .i64 t211)) (fun _ hk => hk.2) (.int .i64 t212)) (fun _ hk => hk.2) (.int .i64 t213)) (fun _ hk => hk.2) (.int .i64 t214)) (fun _ hk => hk.2) (.slice Ao30 t215.length co30)) (fun _ hk => ⟨hk.1.1.1.2, ⟨hk.1.1.2, hk.1.2⟩⟩)⟩, ⟨by (with_reducible repeat (first | apply Kd.R_alloc | apply Kd.R_drewN | apply Kd.R_drew)); exact Kd.R_mono (Kd.R_far (p := ⟨gb219, 4, none⟩) (Kd.R_far (p := ⟨gb219, 3, none⟩) (Kd.R_far (p := ⟨gb219, 2, none⟩) (Kd.R_far (p := ⟨gb219, 1, none⟩) (Kd.R_far (p := ⟨gb219, 0, none⟩) (Kd.R_types HO217.out BK219.out (by decide)) (fun _ hk => hk.2) (.int .i64 t211)) (fun _ hk => hk.2) (.int .i64 t212)) (fun _ hk => hk.2) (.int .i64 t213)) (fun _ hk => hk.2) (.int .i64 t214)) (fun _ hk => hk.2) (.slice Ao30 t215.length co30)) (fun _ hk => ⟨hk.1.1.2, hk.1.2⟩)⟩, ⟨by (with_reducible repeat (first | refine blk_drewN ?_ _ | refine blk_drew ?_ | refine blk_alloc ?_ _)); refine blk_far ?_ NB196_219.out _; (with_reducible repeat (first | refine blk_drewN ?_ _ | refine blk_drew ?_ | refine blk_alloc ?_ _)); refine blk_far ?_ NB196_219.out _; (with_reducible repeat (first | refine blk_drewN ?_ _ | refine blk_drew ?_ | refine blk_alloc ?_ _)); refine blk_far ?_ NB196_219.out _; (with_reducible repeat (first | refine blk_drewN ?_ _ | refine blk_drew ?_ | refine blk_alloc ?_ _)); refine blk_far ?_ NB196_219.out _; (with_reducible repeat (first | refine blk_drewN ?_ _ | refine blk_drew ?_ | refine blk_alloc ?_ _)); refine blk_far ?_ NB196_219.out _; (with_reducible repeat (first | refine blk_drewN ?_ _ | refine blk_drew ?_ | refine blk_alloc ?_ _)); exact BK196.out⟩, ⟨by (with_reducible repeat (first | refine blk_drewN ?_ _ | refine blk_drew ?_ | refine blk_alloc ?_ _)); refine blk_far ?_ NB197_219.out _; (with_reducible repeat (first | refine blk_drewN ?_ _ | refine blk_drew ?_ | refine blk_alloc ?_ _)); refine blk_far ?_ NB197_219.out _; (with_reducible repeat (first | refine blk_drewN ?_ _ | refine blk_drew ?_ | refine blk_alloc ?_ _)); refine blk_far ?_ NB197_219.out _; (with_reducible repeat (first | refine blk_drewN ?_ _ | refine blk_drew ?_ | refine blk_alloc ?_ _)); refine blk_far ?_ NB197_219.out _; (with_reducible repeat (first | refine blk_drewN ?_ _ | refine blk_drew ?_ | refine blk_alloc ?_ _)); refine blk_far ?_ NB197_219.out _; (with_reducible repeat (first | refine blk_drewN ?_ _ | refine blk_drew ?_ | refine blk_alloc ?_ _)); exact BK197.out⟩, ⟨by (with_reducible repeat (first | refine blk_drewN ?_ _ | refine blk_drew ?_ | refine blk_alloc ?_ _)); refine blk_put (cs := #[.int .i64 t211, .int .i64 t212, .int .i64 t213, .int .i64 t214, .slice none 0 0]) ?_ 4 _ rfl; (with_reducible repeat (first | refine blk_drewN ?_ _ | refine blk_drew ?_ | refine blk_alloc ?_ _)); refine blk_put (cs := #[.int .i64 t211, .int .i64 t212, .int .i64 t213, .int .i64 0, .slice none 0 0]) ?_ 3 _ rfl; (with_reducible repeat (first | refine blk_drewN ?_ _ | refine blk_drew ?_ | refine blk_alloc ?_ _)); refine blk_put (cs := #[.int .i64 t211, .int .i64 t212, .int .i64 0, .int .i64 0, .slice none 0 0]) ?_ 2 _ rfl; (with_reducible repeat (first | refine blk_drewN ?_ _ | refine blk_drew ?_ | refine blk_alloc ?_ _)); refine blk_put (cs := #[.int .i64 t211, .int .i64 0, .int .i64 0, .int .i64 0, .slice none 0 0]) ?_ 1 _ rfl; (with_reducible repeat (first | refine blk_drewN ?_ _ | refine blk_drew ?_ | refine blk_alloc ?_ _)); refine blk_put (cs := #[.int .i64 0, .int .i64 0, .int .i64 0, .int .i64 0, .slice none 0 0]) ?_ 0 _ rfl; (with_reducible repeat (first | refine blk_drewN ?_ _ | refine blk_drew ?_ | refine blk_alloc ?_ _)); exact BK219.out⟩, ⟨by repeat (first | (with_reducible first | exact HB.out | apply below_alloc | apply pw_below_drewN | apply below_drew1 | refine below_set ?_ GE196.out | refine below_set ?_ GE197.out | refine below_set ?_ GE219.out) | exact HB.out)⟩⟩
          · replace c33 := Bool.eq_false_iff.mpr c33
            subst c33
            have H1 : (airchecklaw36_FingerprintBounds.j0 k a2 a3 t199 t202 t205 t209 true a4_0 a4_1 a4_2 a5_0 a5_1 a5_2 a5_3 l5_4) = some r := by rw [if_neg (show ¬ (false = true) by decide)] at H; exact H
            clear H
            have H := H1
            clear H1
            have H' := Aside0.mk H
            clear H
            go_wp2
            go_meet
            case rel => exact ⟨_, (true), (by first | rfl | (simp; done) | (simp [*]; done)), H', ⟨by first | omega | exact Nat.le_refl _⟩, ⟨by (with_reducible repeat (first | apply Kd.R_alloc | apply Kd.R_drewN | apply Kd.R_drew)); exact Kd.R_mono (Kd.R_far (p := ⟨gb219, 4, none⟩) (Kd.R_far (p := ⟨gb219, 3, none⟩) (Kd.R_far (p := ⟨gb219, 2, none⟩) (Kd.R_far (p := ⟨gb219, 1, none⟩) (Kd.R_far (p := ⟨gb219, 0, none⟩) (Kd.R_types HO201.out BK219.out (by decide)) (fun _ hk => hk.2) (.int .i64 t211)) (fun _ hk => hk.2) (.int .i64 t212)) (fun _ hk => hk.2) (.int .i64 t213)) (fun _ hk => hk.2) (.int .i64 t214)) (fun _ hk => hk.2) (.slice Ao30 t215.length co30)) (fun _ hk => ⟨hk.1.1.2, hk.1.2⟩)⟩, ⟨by (with_reducible repeat (first | apply Kd.R_alloc | apply Kd.R_drewN | apply Kd.R_drew)); exact Kd.R_mono (Kd.R_far (p := ⟨gb219, 4, none⟩) (Kd.R_far (p := ⟨gb219, 3, none⟩) (Kd.R_far (p := ⟨gb219, 2, none⟩) (Kd.R_far (p := ⟨gb219, 1, none⟩) (Kd.R_far (p := ⟨gb219, 0, none⟩) (Kd.R_types HO204.out BK219.out (by decide)) (fun _ hk => hk.2) (.int .i64 t211)) (fun _ hk => hk.2) (.int .i64 t212)) (fun _ hk => hk.2) (.int .i64 t213)) (fun _ hk => hk.2) (.int .i64 t214)) (fun _ hk => hk.2) (.slice Ao30 t215.length co30)) (fun _ hk => ⟨hk.1.1.2, hk.1.2⟩)⟩, ⟨by (with_reducible repeat (first | apply Kd.S_alloc | apply Kd.S_drewN | apply Kd.S_drew)); exact Kd.S_mono (Kd.S_far (p := ⟨gb219, 4, none⟩) (Kd.S_far (p := ⟨gb219, 3, none⟩) (Kd.S_far (p := ⟨gb219, 2, none⟩) (Kd.S_far (p := ⟨gb219, 1, none⟩) (Kd.S_far (p := ⟨gb219, 0, none⟩) (Kd.S_types HO208.out BK219.out (by decide)) (fun _ hk => hk.2) (.int .i64 t211)) (fun _ hk => hk.2) (.int .i64 t212)) (fun _ hk => hk.2) (.int .i64 t213)) (fun _ hk => hk.2) (.int .i64 t214)) (fun _ hk => hk.2) (.slice Ao30 t215.length co30)) (fun _ hk => ⟨hk.1.1.1.2, ⟨hk.1.1.2, hk.1.2⟩⟩)⟩, ⟨by (with_reducible repeat (first | apply Kd.R_alloc | apply Kd.R_drewN | apply Kd.R_drew)); exact Kd.R_mono (Kd.R_far (p := ⟨gb219, 4, none⟩) (Kd.R_far (p := ⟨gb219, 3, none⟩) (Kd.R_far (p := ⟨gb219, 2, none⟩) (Kd.R_far (p := ⟨gb219, 1, none⟩) (Kd.R_far (p := ⟨gb219, 0, none⟩) (Kd.R_types HO217.out BK219.out (by decide)) (fun _ hk => hk.2) (.int .i64 t211)) (fun _ hk => hk.2) (.int .i64 t212)) (fun _ hk => hk.2) (.int .i64 t213)) (fun _ hk => hk.2) (.int .i64 t214)) (fun _ hk => hk.2) (.slice Ao30 t215.length co30)) (fun _ hk => ⟨hk.1.1.2, hk.1.2⟩)⟩, ⟨by (with_reducible repeat (first | refine blk_drewN ?_ _ | refine blk_drew ?_ | refine blk_alloc ?_ _)); refine blk_far ?_ NB196_219.out _; (with_reducible repeat (first | refine blk_drewN ?_ _ | refine blk_drew ?_ | refine blk_alloc ?_ _)); refine blk_far ?_ NB196_219.out _; (with_reducible repeat (first | refine blk_drewN ?_ _ | refine blk_drew ?_ | refine blk_alloc ?_ _)); refine blk_far ?_ NB196_219.out _; (with_reducible repeat (first | refine blk_drewN ?_ _ | refine blk_drew ?_ | refine blk_alloc ?_ _)); refine blk_far ?_ NB196_219.out _; (with_reducible repeat (first | refine blk_drewN ?_ _ | refine blk_drew ?_ | refine blk_alloc ?_ _)); refine blk_far ?_ NB196_219.out _; (with_reducible repeat (first | refine blk_drewN ?_ _ | refine blk_drew ?_ | refine blk_alloc ?_ _)); exact BK196.out⟩, ⟨by (with_reducible repeat (first | refine blk_drewN ?_ _ | refine blk_drew ?_ | refine blk_alloc ?_ _)); refine blk_far ?_ NB197_219.out _; (with_reducible repeat (first | refine blk_drewN ?_ _ | refine blk_drew ?_ | refine blk_alloc ?_ _)); refine blk_far ?_ NB197_219.out _; (with_reducible repeat (first | refine blk_drewN ?_ _ | refine blk_drew ?_ | refine blk_alloc ?_ _)); refine blk_far ?_ NB197_219.out _; (with_reducible repeat (first | refine blk_drewN ?_ _ | refine blk_drew ?_ | refine blk_alloc ?_ _)); refine blk_far ?_ NB197_219.out _; (with_reducible repeat (first | refine blk_drewN ?_ _ | refine blk_drew ?_ | refine blk_alloc ?_ _)); refine blk_far ?_ NB197_219.out _; (with_reducible repeat (first | refine blk_drewN ?_ _ | refine blk_drew ?_ | refine blk_alloc ?_ _)); exact BK197.out⟩, ⟨by (with_reducible repeat (first | refine blk_drewN ?_ _ | refine blk_drew ?_ | refine blk_alloc ?_ _)); refine blk_put (cs := #[.int .i64 t211, .int .i64 t212, .int .i64 t213, .int .i64 t214, .slice none 0 0]) ?_ 4 _ rfl; (with_reducible repeat (first | refine blk_drewN ?_ _ | refine blk_drew ?_ | refine blk_alloc ?_ _)); refine blk_put (cs := #[.int .i64 t211, .int .i64 t212, .int .i64 t213, .int .i64 0, .slice none 0 0]) ?_ 3 _ rfl; (with_reducible repeat (first | refine blk_drewN ?_ _ | refine blk_drew ?_ | refine blk_alloc ?_ _)); refine blk_put (cs := #[.int .i64 t211, .int .i64 t212, .int .i64 0, .int .i64 0, .slice none 0 0]) ?_ 2 _ rfl; (with_reducible repeat (first | refine blk_drewN ?_ _ | refine blk_drew ?_ | refine blk_alloc ?_ _)); refine blk_put (cs := #[.int .i64 t211, .int .i64 0, .int .i64 0, .int .i64 0, .slice none 0 0]) ?_ 1 _ rfl; (with_reducible repeat (first | refine blk_drewN ?_ _ | refine blk_drew ?_ | refine blk_alloc ?_ _)); refine blk_put (cs := #[.int .i64 0, .int .i64 0, .int .i64 0, .int .i64 0, .slice none 0 0]) ?_ 0 _ rfl; (with_reducible repeat (first | refine blk_drewN ?_ _ | refine blk_drew ?_ | refine blk_alloc ?_ _)); exact BK219.out⟩, ⟨by repeat (first | (with_reducible first | exact HB.out | apply below_alloc | apply pw_below_drewN | apply below_drew1 | refine below_set ?_ GE196.out | refine below_set ?_ GE197.out | refine below_set ?_ GE219.out) | exact HB.out)⟩⟩
        · rw [if_neg c32] at H
          have c32b0 : (t218 == 0) = false := beq_eq_false_iff_ne.mpr c32
          have c32b1 : (t218 != 0) = true := bne_iff_ne.mpr c32
          have H' := Aside0.mk H
          clear H
          go_wp2
          go_meet
          case rel => exact ⟨_, (true), (by first | rfl | (simp; done) | (simp [*]; done)), H', ⟨by first | omega | exact Nat.le_refl _⟩, ⟨by (with_reducible repeat (first | apply Kd.R_alloc | apply Kd.R_drewN | apply Kd.R_drew)); exact Kd.R_mono (Kd.R_far (p := ⟨gb219, 4, none⟩) (Kd.R_far (p := ⟨gb219, 3, none⟩) (Kd.R_far (p := ⟨gb219, 2, none⟩) (Kd.R_far (p := ⟨gb219, 1, none⟩) (Kd.R_far (p := ⟨gb219, 0, none⟩) (Kd.R_types HO201.out BK219.out (by decide)) (fun _ hk => hk.2) (.int .i64 t211)) (fun _ hk => hk.2) (.int .i64 t212)) (fun _ hk => hk.2) (.int .i64 t213)) (fun _ hk => hk.2) (.int .i64 t214)) (fun _ hk => hk.2) (.slice Ao30 t215.length co30)) (fun _ hk => ⟨hk.1.1.2, hk.1.2⟩)⟩, ⟨by (with_reducible repeat (first | apply Kd.R_alloc | apply Kd.R_drewN | apply Kd.R_drew)); exact Kd.R_mono (Kd.R_far (p := ⟨gb219, 4, none⟩) (Kd.R_far (p := ⟨gb219, 3, none⟩) (Kd.R_far (p := ⟨gb219, 2, none⟩) (Kd.R_far (p := ⟨gb219, 1, none⟩) (Kd.R_far (p := ⟨gb219, 0, none⟩) (Kd.R_types HO204.out BK219.out (by decide)) (fun _ hk => hk.2) (.int .i64 t211)) (fun _ hk => hk.2) (.int .i64 t212)) (fun _ hk => hk.2) (.int .i64 t213)) (fun _ hk => hk.2) (.int .i64 t214)) (fun _ hk => hk.2) (.slice Ao30 t215.length co30)) (fun _ hk => ⟨hk.1.1.2, hk.1.2⟩)⟩, ⟨by (with_reducible repeat (first | apply Kd.S_alloc | apply Kd.S_drewN | apply Kd.S_drew)); exact Kd.S_mono (Kd.S_far (p := ⟨gb219, 4, none⟩) (Kd.S_far (p := ⟨gb219, 3, none⟩) (Kd.S_far (p := ⟨gb219, 2, none⟩) (Kd.S_far (p := ⟨gb219, 1, none⟩) (Kd.S_far (p := ⟨gb219, 0, none⟩) (Kd.S_types HO208.out BK219.out (by decide)) (fun _ hk => hk.2) (.int .i64 t211)) (fun _ hk => hk.2) (.int .i64 t212)) (fun _ hk => hk.2) (.int .i64 t213)) (fun _ hk => hk.2) (.int .i64 t214)) (fun _ hk => hk.2) (.slice Ao30 t215.length co30)) (fun _ hk => ⟨hk.1.1.1.2, ⟨hk.1.1.2, hk.1.2⟩⟩)⟩, ⟨by (with_reducible repeat (first | apply Kd.R_alloc | apply Kd.R_drewN | apply Kd.R_drew)); exact Kd.R_mono (Kd.R_far (p := ⟨gb219, 4, none⟩) (Kd.R_far (p := ⟨gb219, 3, none⟩) (Kd.R_far (p := ⟨gb219, 2, none⟩) (Kd.R_far (p := ⟨gb219, 1, none⟩) (Kd.R_far (p := ⟨gb219, 0, none⟩) (Kd.R_types HO217.out BK219.out (by decide)) (fun _ hk => hk.2) (.int .i64 t211)) (fun _ hk => hk.2) (.int .i64 t212)) (fun _ hk => hk.2) (.int .i64 t213)) (fun _ hk => hk.2) (.int .i64 t214)) (fun _ hk => hk.2) (.slice Ao30 t215.length co30)) (fun _ hk => ⟨hk.1.1.2, hk.1.2⟩)⟩, ⟨by (with_reducible repeat (first | refine blk_drewN ?_ _ | refine blk_drew ?_ | refine blk_alloc ?_ _)); refine blk_far ?_ NB196_219.out _; (with_reducible repeat (first | refine blk_drewN ?_ _ | refine blk_drew ?_ | refine blk_alloc ?_ _)); refine blk_far ?_ NB196_219.out _; (with_reducible repeat (first | refine blk_drewN ?_ _ | refine blk_drew ?_ | refine blk_alloc ?_ _)); refine blk_far ?_ NB196_219.out _; (with_reducible repeat (first | refine blk_drewN ?_ _ | refine blk_drew ?_ | refine blk_alloc ?_ _)); refine blk_far ?_ NB196_219.out _; (with_reducible repeat (first | refine blk_drewN ?_ _ | refine blk_drew ?_ | refine blk_alloc ?_ _)); refine blk_far ?_ NB196_219.out _; (with_reducible repeat (first | refine blk_drewN ?_ _ | refine blk_drew ?_ | refine blk_alloc ?_ _)); exact BK196.out⟩, ⟨by (with_reducible repeat (first | refine blk_drewN ?_ _ | refine blk_drew ?_ | refine blk_alloc ?_ _)); refine blk_far ?_ NB197_219.out _; (with_reducible repeat (first | refine blk_drewN ?_ _ | refine blk_drew ?_ | refine blk_alloc ?_ _)); refine blk_far ?_ NB197_219.out _; (with_reducible repeat (first | refine blk_drewN ?_ _ | refine blk_drew ?_ | refine blk_alloc ?_ _)); refine blk_far ?_ NB197_219.out _; (with_reducible repeat (first | refine blk_drewN ?_ _ | refine blk_drew ?_ | refine blk_alloc ?_ _)); refine blk_far ?_ NB197_219.out _; (with_reducible repeat (first | refine blk_drewN ?_ _ | refine blk_drew ?_ | refine blk_alloc ?_ _)); refine blk_far ?_ NB197_219.out _; (with_reducible repeat (first | refine blk_drewN ?_ _ | refine blk_drew ?_ | refine blk_alloc ?_ _)); exact BK197.out⟩, ⟨by (with_reducible repeat (first | refine blk_drewN ?_ _ | refine blk_drew ?_ | refine blk_alloc ?_ _)); refine blk_put (cs := #[.int .i64 t211, .int .i64 t212, .int .i64 t213, .int .i64 t214, .slice none 0 0]) ?_ 4 _ rfl; (with_reducible repeat (first | refine blk_drewN ?_ _ | refine blk_drew ?_ | refine blk_alloc ?_ _)); refine blk_put (cs := #[.int .i64 t211, .int .i64 t212, .int .i64 t213, .int .i64 0, .slice none 0 0]) ?_ 3 _ rfl; (with_reducible repeat (first | refine blk_drewN ?_ _ | refine blk_drew ?_ | refine blk_alloc ?_ _)); refine blk_put (cs := #[.int .i64 t211, .int .i64 t212, .int .i64 0, .int .i64 0, .slice none 0 0]) ?_ 2 _ rfl; (with_reducible repeat (first | refine blk_drewN ?_ _ | refine blk_drew ?_ | refine blk_alloc ?_ _)); refine blk_put (cs := #[.int .i64 t211, .int .i64 0, .int .i64 0, .int .i64 0, .slice none 0 0]) ?_ 1 _ rfl; (with_reducible repeat (first | refine blk_drewN ?_ _ | refine blk_drew ?_ | refine blk_alloc ?_ _)); refine blk_put (cs := #[.int .i64 0, .int .i64 0, .int .i64 0, .int .i64 0, .slice none 0 0]) ?_ 0 _ rfl; (with_reducible repeat (first | refine blk_drewN ?_ _ | refine blk_drew ?_ | refine blk_alloc ?_ _)); exact BK219.out⟩, ⟨by repeat (first | (with_reducible first | exact HB.out | apply below_alloc | apply pw_below_drewN | apply below_drew1 | refine below_set ?_ GE196.out | refine below_set ?_ GE197.out | refine below_set ?_ GE219.out) | exact HB.out)⟩⟩
      · rw [if_neg c31] at H
        have c31b0 : (t206 == 0) = false := beq_eq_false_iff_ne.mpr c31
        have c31b1 : (t206 != 0) = true := bne_iff_ne.mpr c31
        (first | rw [c31b0] | (simp only [i64_w, i32_w]; rw [c31b0]) | skip)
        have H' := Aside0.mk H
        clear H
        go_wp2
        go_meet
        case rel => exact ⟨_, (true), (by first | rfl | (simp; done) | (simp [*]; done)), H', ⟨by first | omega | exact Nat.le_refl _⟩, ⟨by (with_reducible repeat (first | apply Kd.R_alloc | apply Kd.R_drewN | apply Kd.R_drew)); exact Kd.R_mono (Kd.R_far (p := ⟨gb219, 4, none⟩) (Kd.R_far (p := ⟨gb219, 3, none⟩) (Kd.R_far (p := ⟨gb219, 2, none⟩) (Kd.R_far (p := ⟨gb219, 1, none⟩) (Kd.R_far (p := ⟨gb219, 0, none⟩) (Kd.R_types HO201.out BK219.out (by decide)) (fun _ hk => hk.2) (.int .i64 t211)) (fun _ hk => hk.2) (.int .i64 t212)) (fun _ hk => hk.2) (.int .i64 t213)) (fun _ hk => hk.2) (.int .i64 t214)) (fun _ hk => hk.2) (.slice Ao30 t215.length co30)) (fun _ hk => ⟨hk.1.1.2, hk.1.2⟩)⟩, ⟨by (with_reducible repeat (first | apply Kd.R_alloc | apply Kd.R_drewN | apply Kd.R_drew)); exact Kd.R_mono (Kd.R_far (p := ⟨gb219, 4, none⟩) (Kd.R_far (p := ⟨gb219, 3, none⟩) (Kd.R_far (p := ⟨gb219, 2, none⟩) (Kd.R_far (p := ⟨gb219, 1, none⟩) (Kd.R_far (p := ⟨gb219, 0, none⟩) (Kd.R_types HO204.out BK219.out (by decide)) (fun _ hk => hk.2) (.int .i64 t211)) (fun _ hk => hk.2) (.int .i64 t212)) (fun _ hk => hk.2) (.int .i64 t213)) (fun _ hk => hk.2) (.int .i64 t214)) (fun _ hk => hk.2) (.slice Ao30 t215.length co30)) (fun _ hk => ⟨hk.1.1.2, hk.1.2⟩)⟩, ⟨by (with_reducible repeat (first | apply Kd.S_alloc | apply Kd.S_drewN | apply Kd.S_drew)); exact Kd.S_mono (Kd.S_far (p := ⟨gb219, 4, none⟩) (Kd.S_far (p := ⟨gb219, 3, none⟩) (Kd.S_far (p := ⟨gb219, 2, none⟩) (Kd.S_far (p := ⟨gb219, 1, none⟩) (Kd.S_far (p := ⟨gb219, 0, none⟩) (Kd.S_types HO208.out BK219.out (by decide)) (fun _ hk => hk.2) (.int .i64 t211)) (fun _ hk => hk.2) (.int .i64 t212)) (fun _ hk => hk.2) (.int .i64 t213)) (fun _ hk => hk.2) (.int .i64 t214)) (fun _ hk => hk.2) (.slice Ao30 t215.length co30)) (fun _ hk => ⟨hk.1.1.1.2, ⟨hk.1.1.2, hk.1.2⟩⟩)⟩, ⟨by (with_reducible repeat (first | apply Kd.R_alloc | apply Kd.R_drewN | apply Kd.R_drew)); exact Kd.R_mono (Kd.R_far (p := ⟨gb219, 4, none⟩) (Kd.R_far (p := ⟨gb219, 3, none⟩) (Kd.R_far (p := ⟨gb219, 2, none⟩) (Kd.R_far (p := ⟨gb219, 1, none⟩) (Kd.R_far (p := ⟨gb219, 0, none⟩) (Kd.R_types HO217.out BK219.out (by decide)) (fun _ hk => hk.2) (.int .i64 t211)) (fun _ hk => hk.2) (.int .i64 t212)) (fun _ hk => hk.2) (.int .i64 t213)) (fun _ hk => hk.2) (.int .i64 t214)) (fun _ hk => hk.2) (.slice Ao30 t215.length co30)) (fun _ hk => ⟨hk.1.1.2, hk.1.2⟩)⟩, ⟨by (with_reducible repeat (first | refine blk_drewN ?_ _ | refine blk_drew ?_ | refine blk_alloc ?_ _)); refine blk_far ?_ NB196_219.out _; (with_reducible repeat (first | refine blk_drewN ?_ _ | refine blk_drew ?_ | refine blk_alloc ?_ _)); refine blk_far ?_ NB196_219.out _; (with_reducible repeat (first | refine blk_drewN ?_ _ | refine blk_drew ?_ | refine blk_alloc ?_ _)); refine blk_far ?_ NB196_219.out _; (with_reducible repeat (first | refine blk_drewN ?_ _ | refine blk_drew ?_ | refine blk_alloc ?_ _)); refine blk_far ?_ NB196_219.out _; (with_reducible repeat (first | refine blk_drewN ?_ _ | refine blk_drew ?_ | refine blk_alloc ?_ _)); refine blk_far ?_ NB196_219.out _; (with_reducible repeat (first | refine blk_drewN ?_ _ | refine blk_drew ?_ | refine blk_alloc ?_ _)); exact BK196.out⟩, ⟨by (with_reducible repeat (first | refine blk_drewN ?_ _ | refine blk_drew ?_ | refine blk_alloc ?_ _)); refine blk_far ?_ NB197_219.out _; (with_reducible repeat (first | refine blk_drewN ?_ _ | refine blk_drew ?_ | refine blk_alloc ?_ _)); refine blk_far ?_ NB197_219.out _; (with_reducible repeat (first | refine blk_drewN ?_ _ | refine blk_drew ?_ | refine blk_alloc ?_ _)); refine blk_far ?_ NB197_219.out _; (with_reducible repeat (first | refine blk_drewN ?_ _ | refine blk_drew ?_ | refine blk_alloc ?_ _)); refine blk_far ?_ NB197_219.out _; (with_reducible repeat (first | refine blk_drewN ?_ _ | refine blk_drew ?_ | refine blk_alloc ?_ _)); refine blk_far ?_ NB197_219.out _; (with_reducible repeat (first | refine blk_drewN ?_ _ | refine blk_drew ?_ | refine blk_alloc ?_ _)); exact BK197.out⟩, ⟨by (with_reducible repeat (first | refine blk_drewN ?_ _ | refine blk_drew ?_ | refine blk_alloc ?_ _)); refine blk_put (cs := #[.int .i64 t211, .int .i64 t212, .int .i64 t213, .int .i64 t214, .slice none 0 0]) ?_ 4 _ rfl; (with_reducible repeat (first | refine blk_drewN ?_ _ | refine blk_drew ?_ | refine blk_alloc ?_ _)); refine blk_put (cs := #[.int .i64 t211, .int .i64 t212, .int .i64 t213, .int .i64 0, .slice none 0 0]) ?_ 3 _ rfl; (with_reducible repeat (first | refine blk_drewN ?_ _ | refine blk_drew ?_ | refine blk_alloc ?_ _)); refine blk_put (cs := #[.int .i64 t211, .int .i64 t212, .int .i64 0, .int .i64 0, .slice none 0 0]) ?_ 2 _ rfl; (with_reducible repeat (first | refine blk_drewN ?_ _ | refine blk_drew ?_ | refine blk_alloc ?_ _)); refine blk_put (cs := #[.int .i64 t211, .int .i64 0, .int .i64 0, .int .i64 0, .slice none 0 0]) ?_ 1 _ rfl; (with_reducible repeat (first | refine blk_drewN ?_ _ | refine blk_drew ?_ | refine blk_alloc ?_ _)); refine blk_put (cs := #[.int .i64 0, .int .i64 0, .int .i64 0, .int .i64 0, .slice none 0 0]) ?_ 0 _ rfl; (with_reducible repeat (first | refine blk_drewN ?_ _ | refine blk_drew ?_ | refine blk_alloc ?_ _)); exact BK219.out⟩, ⟨by repeat (first | (with_reducible first | exact HB.out | apply below_alloc | apply pw_below_drewN | apply below_drew1 | refine below_set ?_ GE196.out | refine below_set ?_ GE197.out | refine below_set ?_ GE219.out) | exact HB.out)⟩⟩
    case rest => as_aux_lemma =>
      clear HC14
      try clear c1
      try clear c2
      try clear p2
      try clear c3
      try clear c5
      try clear p6
      try clear c8
      try clear c10
      try clear c12
      try clear c13
      try clear c23
      try clear c26
      try clear c27
      try clear c28
      try clear c31
      try clear c31b0
      try clear c31b1
      try clear c32
      try clear c32b0
      try clear c32b1
      try clear c33
      try clear c34
      try clear c34b0
      try clear c34b1
      try clear c35
      try clear c36
      try clear c38
      try clear c39
      try clear hcz29_0
      try clear hcz29_1
      try clear hcz29_2
      try clear hcz29_3
      try clear hcz29_4
      try clear hcz37_0
      try clear hcz37_1
      try clear hcz37_2
      try clear hcz37_3
      try clear hcz37_4
      try clear hcz40_0
      try clear hcz40_1
      try clear hcz40_2
      try clear hcz40_3
      try clear hcz40_4
      try clear hfz29_0
      try clear hfz29_1
      try clear hfz29_2
      try clear hfz29_3
      try clear hfz29_4
      try clear hfz37_0
      try clear hfz37_1
      try clear hfz37_2
      try clear hfz37_3
      try clear hfz37_4
      try clear hfz40_0
      try clear hfz40_1
      try clear hfz40_2
      try clear hfz40_3
      try clear hfz40_4
      obtain ⟨kq, x78_13, rfl, HA, HJ13, HO_14, HO_15, HO_16, HO_220004, BK196, BK197, BK219, HB⟩ := hcut
      cases kq with
      | zero => exact absurd HA.out (by simp [airchecklaw36_FingerprintBounds.j0])
      | succ kj13 =>
        have H := HA.out
        clear HA
        simp only [airchecklaw36_FingerprintBounds.j0] at H
        by_cases c41 : x78_13 = true
        · subst c41
          have H1 : (some false) = some r := by rw [if_pos rfl] at H; exact H
          exact absurd (Option.some.inj H1) (by rw [hr0.out]; exact Bool.false_ne_true)
        · replace c41 := Bool.eq_false_iff.mpr c41
          subst c41
          have H1 : (airchecklaw36_FingerprintBounds.l0 kj13 a2 a3 t199 t202 t205 t209 ([] : List (List Int)) 0 a4_0 a4_1 a4_2 a5_0 a5_1 a5_2 a5_3 l5_4) = some r := by rw [if_neg (show ¬ (false = true) by decide)] at H; exact H
          clear H
          have H := H1
          clear H1
          have H' := Aside0.mk H
          clear H
          go_wp2
          go_loopg [22, 23] kj13 (fun kq v22 v23 w' => ∃ (x22_2 : List (List Int)) (x23_2 : Int), v23 = .int .i64 x23_2 ∧ Aside0 (airchecklaw36_FingerprintBounds.l0 kq a2 a3 t199 t202 t205 t209 x22_2 x23_2 a4_0 a4_1 a4_2 a5_0 a5_1 a5_2 a5_3 l5_4 = some r) ∧ Aside0 (kq ≤ kj13) ∧ Aside0 (Kd.R (Kd.int .i64) 3 w' w.heap.size (fun k_ => some k_ ≠ ((.slice Ao21 t202.length co21) : Value).ownBlock ∧ some k_ ≠ ((.slice Ao30 t215.length co30) : Value).ownBlock) (.slice Ao20 t199.length co20) t199) ∧ Aside0 (Kd.R (Kd.int .i64) 3 w' w.heap.size (fun k_ => some k_ ≠ ((.slice Ao20 t199.length co20) : Value).ownBlock ∧ some k_ ≠ ((.slice Ao30 t215.length co30) : Value).ownBlock) (.slice Ao21 t202.length co21) t202) ∧ Aside0 (Kd.S (Kd.slice 3 (Kd.int .i64)) 22 w' w.heap.size (fun k_ => some k_ ≠ ((.slice Ao20 t199.length co20) : Value).ownBlock ∧ some k_ ≠ ((.slice Ao21 t202.length co21) : Value).ownBlock ∧ some k_ ≠ (v22 : Value).ownBlock ∧ some k_ ≠ ((.slice Ao30 t215.length co30) : Value).ownBlock) (.slice Ao23 t205.length co23) t205) ∧ Aside0 (Kd.S (Kd.slice 3 (Kd.int .i64)) 22 w' w.heap.size (fun k_ => some k_ ≠ ((.slice Ao20 t199.length co20) : Value).ownBlock ∧ some k_ ≠ ((.slice Ao21 t202.length co21) : Value).ownBlock ∧ some k_ ≠ ((.slice Ao23 t205.length co23) : Value).ownBlock ∧ some k_ ≠ ((.slice Ao30 t215.length co30) : Value).ownBlock) v22 x22_2) ∧ Aside0 (Kd.R (Kd.int .i64) 3 w' w.heap.size (fun k_ => some k_ ≠ ((.slice Ao20 t199.length co20) : Value).ownBlock ∧ some k_ ≠ ((.slice Ao21 t202.length co21) : Value).ownBlock) (.slice Ao30 t215.length co30) t215) ∧ Aside0 (w'.heap[gb196]? = some (.cells #[.int .i64 a4_0, .int .i64 a4_1, .int .i64 a4_2] 29 (0, 0))) ∧ Aside0 (w'.heap[gb197]? = some (.cells #[.int .i64 a5_0, .int .i64 a5_1, .int .i64 a5_2, .int .i64 a5_3, (.slice A5_4 l5_4.length c5_4)] 25 (0, 0))) ∧ Aside0 (w'.heap[gb219]? = some (.cells #[.int .i64 t211, .int .i64 t212, .int .i64 t213, .int .i64 t214, (.slice Ao30 t215.length co30)] 25 (0, 0))) ∧ Aside0 (Below w.heap.size w w'))
          case atStart => exact ⟨(([] : List (List Int))), (0), (by first | rfl | (simp; done) | (simp [*]; done)), H', ⟨Nat.le_refl _⟩, ⟨by (with_reducible repeat (first | apply Kd.R_alloc | apply Kd.R_drewN | apply Kd.R_drew)); exact HO_14.out⟩, ⟨by (with_reducible repeat (first | apply Kd.R_alloc | apply Kd.R_drewN | apply Kd.R_drew)); exact HO_15.out⟩, ⟨by (with_reducible repeat (first | apply Kd.S_alloc | apply Kd.S_drewN | apply Kd.S_drew)); exact Kd.S_mono HO_16.out (fun _ hk => ⟨hk.1, ⟨hk.2.1, ⟨(by simp [Value.ownBlock]), hk.2.2⟩⟩⟩)⟩, ⟨by first | exact Kd.S_nil _ _ _ _ _ | exact Kd.N_nil _ _ _ _ _ | exact Kd.V_nil _ _ _ _ _ | exact Kd.Q_nil _ _ _ _ _ | exact Kd.R_nil _ _ _ _ _⟩, ⟨by (with_reducible repeat (first | apply Kd.R_alloc | apply Kd.R_drewN | apply Kd.R_drew)); exact HO_220004.out⟩, ⟨by (with_reducible repeat (first | refine blk_drewN ?_ _ | refine blk_drew ?_ | refine blk_alloc ?_ _)); exact BK196.out⟩, ⟨by (with_reducible repeat (first | refine blk_drewN ?_ _ | refine blk_drew ?_ | refine blk_alloc ?_ _)); exact BK197.out⟩, ⟨by (with_reducible repeat (first | refine blk_drewN ?_ _ | refine blk_drew ?_ | refine blk_alloc ?_ _)); exact BK219.out⟩, ⟨by repeat (first | (with_reducible first | exact HB.out | apply below_alloc | apply pw_below_drewN | apply below_drew1 | refine below_set ?_ GE196.out | refine below_set ?_ GE197.out | refine below_set ?_ GE219.out) | exact HB.out)⟩⟩
          case round => as_aux_lemma =>
            clear H'
            try clear c1
            try clear c2
            try clear p2
            try clear c3
            try clear c4
            try clear c5
            try clear p6
            try clear c8
            try clear c10
            try clear c12
            try clear c13
            try clear c23
            try clear c26
            try clear c27
            try clear c28
            try clear c31
            try clear c31b0
            try clear c31b1
            try clear c32
            try clear c32b0
            try clear c32b1
            try clear c33
            try clear c34
            try clear c34b0
            try clear c34b1
            try clear c35
            try clear c36
            try clear c38
            try clear c39
            try clear c41
            try clear hcz29_0
            try clear hcz29_1
            try clear hcz29_2
            try clear hcz29_3
            try clear hcz29_4
            try clear hcz37_0
            try clear hcz37_1
            try clear hcz37_2
            try clear hcz37_3
            try clear hcz37_4
            try clear hcz40_0
            try clear hcz40_1
            try clear hcz40_2
            try clear hcz40_3
            try clear hcz40_4
            try clear hfz29_0
            try clear hfz29_1
            try clear hfz29_2
            try clear hfz29_3
            try clear hfz29_4
            try clear hfz37_0
            try clear hfz37_1
            try clear hfz37_2
            try clear hfz37_3
            try clear hfz37_4
            try clear hfz40_0
            try clear hfz40_1
            try clear hfz40_2
            try clear hfz40_3
            try clear hfz40_4
            try clear p2
            try clear p6
            obtain ⟨x22_2, x23_2, rfl, HA, HK2, HO_14, HO_15, HO_16, HO_22, HO_220004, BK196, BK197, BK219, HB⟩ := hrel
            cases gk with
            | zero => exact absurd HA.out (by simp [airchecklaw36_FingerprintBounds.l0])
            | succ k2 =>
              have H := HA.out
              clear HA
              simp only [airchecklaw36_FingerprintBounds.l0] at H
              by_cases c42 : x23_2 < (t205.length : Int)
              · rw [if_pos c42] at H
                have c42b0 : decide (x23_2 < (t205.length : Int)) = true := decide_eq_true c42
                clear c42
                have H' := Aside0.mk H
                clear H
                go_wp2
                go_loopg [24, 25] k2 (fun kq v24 v25 w' => ∃ (x24_3 : List Int) (x25_3 : Int), v25 = .int .i64 x25_3 ∧ Aside0 (airchecklaw36_FingerprintBounds.l1 kq a2 a3 t199 t202 t205 t209 x22_2 x23_2 x24_3 x25_3 a4_0 a4_1 a4_2 a5_0 a5_1 a5_2 a5_3 l5_4 = some r) ∧ Aside0 (kq ≤ k2) ∧ Aside0 (Kd.R (Kd.int .i64) 3 w' w.heap.size (fun k_ => some k_ ≠ ((.slice Ao21 t202.length co21) : Value).ownBlock ∧ some k_ ≠ (v24 : Value).ownBlock ∧ some k_ ≠ ((.slice Ao30 t215.length co30) : Value).ownBlock) (.slice Ao20 t199.length co20) t199) ∧ Aside0 (Kd.R (Kd.int .i64) 3 w' w.heap.size (fun k_ => some k_ ≠ ((.slice Ao20 t199.length co20) : Value).ownBlock ∧ some k_ ≠ (v24 : Value).ownBlock ∧ some k_ ≠ ((.slice Ao30 t215.length co30) : Value).ownBlock) (.slice Ao21 t202.length co21) t202) ∧ Aside0 (Kd.S (Kd.slice 3 (Kd.int .i64)) 22 w' w.heap.size (fun k_ => some k_ ≠ ((.slice Ao20 t199.length co20) : Value).ownBlock ∧ some k_ ≠ ((.slice Ao21 t202.length co21) : Value).ownBlock ∧ some k_ ≠ (u22 : Value).ownBlock ∧ some k_ ≠ (v24 : Value).ownBlock ∧ some k_ ≠ ((.slice Ao30 t215.length co30) : Value).ownBlock) (.slice Ao23 t205.length co23) t205) ∧ Aside0 (Kd.S (Kd.slice 3 (Kd.int .i64)) 22 w' w.heap.size (fun k_ => some k_ ≠ ((.slice Ao20 t199.length co20) : Value).ownBlock ∧ some k_ ≠ ((.slice Ao21 t202.length co21) : Value).ownBlock ∧ some k_ ≠ ((.slice Ao23 t205.length co23) : Value).ownBlock ∧ some k_ ≠ (v24 : Value).ownBlock ∧ some k_ ≠ ((.slice Ao30 t215.length co30) : Value).ownBlock) u22 x22_2) ∧ Aside0 (Kd.R (Kd.int .i64) 3 w' w.heap.size (fun k_ => some k_ ≠ ((.slice Ao20 t199.length co20) : Value).ownBlock ∧ some k_ ≠ ((.slice Ao21 t202.length co21) : Value).ownBlock ∧ some k_ ≠ ((.slice Ao30 t215.length co30) : Value).ownBlock) v24 x24_3) ∧ Aside0 (Kd.R (Kd.int .i64) 3 w' w.heap.size (fun k_ => some k_ ≠ ((.slice Ao20 t199.length co20) : Value).ownBlock ∧ some k_ ≠ ((.slice Ao21 t202.length co21) : Value).ownBlock ∧ some k_ ≠ (v24 : Value).ownBlock) (.slice Ao30 t215.length co30) t215) ∧ Aside0 (w'.heap[gb196]? = some (.cells #[.int .i64 a4_0, .int .i64 a4_1, .int .i64 a4_2] 29 (0, 0))) ∧ Aside0 (w'.heap[gb197]? = some (.cells #[.int .i64 a5_0, .int .i64 a5_1, .int .i64 a5_2, .int .i64 a5_3, (.slice A5_4 l5_4.length c5_4)] 25 (0, 0))) ∧ Aside0 (w'.heap[gb219]? = some (.cells #[.int .i64 t211, .int .i64 t212, .int .i64 t213, .int .i64 t214, (.slice Ao30 t215.length co30)] 25 (0, 0))) ∧ Aside0 (Below w.heap.size w w'))
                case atStart => exact ⟨(([] : List Int)), (0), (by first | rfl | (simp; done) | (simp [*]; done)), H', ⟨Nat.le_refl _⟩, ⟨by (with_reducible repeat (first | apply Kd.R_alloc | apply Kd.R_drewN | apply Kd.R_drew)); exact Kd.R_mono HO_14.out (fun _ hk => ⟨hk.1, ⟨(by simp [Value.ownBlock]), hk.2⟩⟩)⟩, ⟨by (with_reducible repeat (first | apply Kd.R_alloc | apply Kd.R_drewN | apply Kd.R_drew)); exact Kd.R_mono HO_15.out (fun _ hk => ⟨hk.1, ⟨(by simp [Value.ownBlock]), hk.2⟩⟩)⟩, ⟨by (with_reducible repeat (first | apply Kd.S_alloc | apply Kd.S_drewN | apply Kd.S_drew)); exact Kd.S_mono HO_16.out (fun _ hk => ⟨hk.1, ⟨hk.2.1, ⟨hk.2.2.1, ⟨(by simp [Value.ownBlock]), hk.2.2.2⟩⟩⟩⟩)⟩, ⟨by (with_reducible repeat (first | apply Kd.S_alloc | apply Kd.S_drewN | apply Kd.S_drew)); exact Kd.S_mono HO_22.out (fun _ hk => ⟨hk.1, ⟨hk.2.1, ⟨hk.2.2.1, ⟨(by simp [Value.ownBlock]), hk.2.2.2⟩⟩⟩⟩)⟩, ⟨by first | exact Kd.R_nil _ _ _ _ _ | exact Kd.N_nil _ _ _ _ _ | exact Kd.V_nil _ _ _ _ _ | exact Kd.Q_nil _ _ _ _ _ | exact Kd.S_nil _ _ _ _ _⟩, ⟨by (with_reducible repeat (first | apply Kd.R_alloc | apply Kd.R_drewN | apply Kd.R_drew)); exact Kd.R_mono HO_220004.out (fun _ hk => ⟨hk.1, ⟨hk.2, (by simp [Value.ownBlock])⟩⟩)⟩, ⟨by (with_reducible repeat (first | refine blk_drewN ?_ _ | refine blk_drew ?_ | refine blk_alloc ?_ _)); exact BK196.out⟩, ⟨by (with_reducible repeat (first | refine blk_drewN ?_ _ | refine blk_drew ?_ | refine blk_alloc ?_ _)); exact BK197.out⟩, ⟨by (with_reducible repeat (first | refine blk_drewN ?_ _ | refine blk_drew ?_ | refine blk_alloc ?_ _)); exact BK219.out⟩, ⟨by repeat (first | (with_reducible first | exact HB.out | apply below_alloc | apply pw_below_drewN | apply below_drew1 | refine below_set ?_ GE196.out | refine below_set ?_ GE197.out | refine below_set ?_ GE219.out) | exact HB.out)⟩⟩
                case round => as_aux_lemma =>
                  clear H'
                  try clear c1
                  try clear c2
                  try clear p2
                  try clear c3
                  try clear c4
                  try clear c5
                  try clear p6
                  try clear c8
                  try clear c10
                  try clear c12
                  try clear c13
                  try clear c23
                  try clear c26
                  try clear c27
                  try clear c28
                  try clear c31
                  try clear c31b0
                  try clear c31b1
                  try clear c32
                  try clear c32b0
                  try clear c32b1
                  try clear c33
                  try clear c34
                  try clear c34b0
                  try clear c34b1
                  try clear c35
                  try clear c36
                  try clear c38
                  try clear c39
                  try clear c41
                  try clear c42
                  try clear c42b0
                  try clear hcz29_0
                  try clear hcz29_1
                  try clear hcz29_2
                  try clear hcz29_3
                  try clear hcz29_4
                  try clear hcz37_0
                  try clear hcz37_1
                  try clear hcz37_2
                  try clear hcz37_3
                  try clear hcz37_4
                  try clear hcz40_0
                  try clear hcz40_1
                  try clear hcz40_2
                  try clear hcz40_3
                  try clear hcz40_4
                  try clear hfz29_0
                  try clear hfz29_1
                  try clear hfz29_2
                  try clear hfz29_3
                  try clear hfz29_4
                  try clear hfz37_0
                  try clear hfz37_1
                  try clear hfz37_2
                  try clear hfz37_3
                  try clear hfz37_4
                  try clear hfz40_0
                  try clear hfz40_1
                  try clear hfz40_2
                  try clear hfz40_3
                  try clear hfz40_4
                  try clear p2
                  try clear p6
                  obtain ⟨x24_3, x25_3, rfl, HA, HK3, HO_14, HO_15, HO_16, HO_22, HO_24, HO_220004, BK196, BK197, BK219, HB⟩ := hrel
                  cases gk with
                  | zero => exact absurd HA.out (by simp [airchecklaw36_FingerprintBounds.l1])
                  | succ k3 =>
                    have H := HA.out
                    clear HA
                    simp only [airchecklaw36_FingerprintBounds.l1] at H
                    by_cases c43 : 0 ≤ x23_2
                    · rw [if_pos c43] at H
                      have c43b0 : decide (0 ≤ x23_2) = true := decide_eq_true c43
                      clear c43
                      by_cases c44 : x23_2 < (t205.length : Int)
                      · rw [if_pos c44] at H
                        have c44b0 : decide (x23_2 < (t205.length : Int)) = true := decide_eq_true c44
                        clear c44
                        by_cases c45 : x25_3 < ((rd_L1 t205 x23_2).length : Int)
                        · rw [if_pos c45] at H
                          have c45b0 : decide (x25_3 < ((rd_L1 t205 x23_2).length : Int)) = true := decide_eq_true c45
                          clear c45
                          by_cases c46 : 0 ≤ x25_3
                          · rw [if_pos c46] at H
                            have c46b0 : decide (0 ≤ x25_3) = true := decide_eq_true c46
                            clear c46
                            replace H := Option.bind_eq_some_iff.mp H
                            obtain ⟨t223, A470, H⟩ := H
                            replace H : ((airchecklaw36_pick.f a2 100).bind fun t224 => (if x24_3.length < 17592186044416 then (airchecklaw36_FingerprintBounds.l1 k3 a2 a3 t199 t202 t205 t209 x22_2 x23_2 (x24_3 ++ [wrap64 ((mn (rd (rd_L1 t205 x23_2) x25_3) t223) - t224)]) (wrap64 (x25_3 + 1)) a4_0 a4_1 a4_2 a5_0 a5_1 a5_2 a5_3 l5_4) else (none))) = some r := H
                            have A47 := Aside0.mk A470
                            clear A470
                            obtain ⟨ji48, hji48⟩ : ∃ j_ : Int, (mn (rd (rd_L1 t205 x23_2) x25_3) t223) = j_ := ⟨_, rfl⟩
                            replace H : ((airchecklaw36_pick.f a2 100).bind fun t224 => (if x24_3.length < 17592186044416 then (airchecklaw36_FingerprintBounds.l1 k3 a2 a3 t199 t202 t205 t209 x22_2 x23_2 (x24_3 ++ [wrap64 ((ji48) - t224)]) (wrap64 (x25_3 + 1)) a4_0 a4_1 a4_2 a5_0 a5_1 a5_2 a5_3 l5_4) else (none))) = some r := by first | (rw [hji48] at H; exact H) | (simp only [hji48] at H ⊢; exact H)
                            (try rw [hji48] at A47)
                            have hji48_ : (if t223 < (rd (rd_L1 t205 x23_2) x25_3) then t223 else (rd (rd_L1 t205 x23_2) x25_3)) = ji48 := hji48
                            replace H := Option.bind_eq_some_iff.mp H
                            obtain ⟨t224, A490, H⟩ := H
                            replace H : (if x24_3.length < 17592186044416 then (airchecklaw36_FingerprintBounds.l1 k3 a2 a3 t199 t202 t205 t209 x22_2 x23_2 (x24_3 ++ [wrap64 ((ji48) - t224)]) (wrap64 (x25_3 + 1)) a4_0 a4_1 a4_2 a5_0 a5_1 a5_2 a5_3 l5_4) else (none)) = some r := H
                            have A49 := Aside0.mk A490
                            clear A490
                            by_cases c50 : x24_3.length < 17592186044416
                            · rw [if_pos c50] at H
                              have LMc50 := Aside0.mk c50
                              clear c50
                              obtain ⟨y225, hy225⟩ : ∃ y_ : List Int, y_ = (x24_3 ++ [wrap64 ((ji48) - t224)]) := ⟨_, rfl⟩
                              replace H : (airchecklaw36_FingerprintBounds.l1 k3 a2 a3 t199 t202 t205 t209 x22_2 x23_2 y225 (wrap64 (x25_3 + 1)) a4_0 a4_1 a4_2 a5_0 a5_1 a5_2 a5_3 l5_4) = some r := by first | (rw [hy225]; with_reducible exact H) | (have H2_ := (Option.bind_some _ _).symm.trans H; rw [hy225]; with_reducible exact H2_) | (have H2_ := (Option.bind_some _ _).symm.trans H; with_reducible exact H2_) | with_reducible exact H | (rw [hy225]; exact H) | exact H
                              have Ny225 := Aside0.mk hy225
                              clear hy225
                              have H' := Aside0.mk H
                              clear H
                              have p220 : 0 ≤ (x23_2 : Int) := of_decide_eq_true (by first | (with_reducible assumption) | assumption)
                              have q220 : x23_2 < (t205.length : Int) := of_decide_eq_true (by first | (with_reducible assumption) | assumption)
                              obtain ⟨ad220, A220_0, c220_0, e220, hx220_0, hl220_0, hi220_0⟩ := at_L1 (Kd.S_reads' HO_16.out).2.2 x23_2 p220 q220
                              cases e220
                              obtain ⟨ce220, hce220, hMe220, hcc220⟩ := Kd.S_get HO_16.out [] x23_2 p220 (by first | exact q220 | exact of_decide_eq_true (by first | (with_reducible assumption) | assumption) | (have e_ := (Kd.S_reads' HO_16.out).1; omega))
                              obtain ⟨ve220_0, rfl, ge220_0⟩ := hMe220
                              have hv220_0 := hcc220 0 _ rfl
                              rw [Nat.add_zero, show ((Kd.slice 3 (Kd.int .i64))).sz = 1 from rfl, Nat.mul_one] at hv220_0
                              replace hv220_0 := Option.some.inj (hv220_0.symm.trans hx220_0)
                              rw [hv220_0] at ge220_0
                              have HL220_0 := Aside0.mk (show Kd.R (Kd.int .i64) 3 _ _ _ _ (rd_L1 t205 x23_2) from ge220_0)
                              clear hv220_0 ge220_0
                              clear hcc220 hce220
                              have HR220_0 := Aside0.mk hi220_0
                              have HC220_0 := Aside0.mk hl220_0
                              clear hi220_0 hl220_0
                              replace p220 := eq_true p220
                              replace q220 := eq_true q220
                              try go_wp2
                              have n0_ := Aside0.mk (Kd.R_drew HO_14.out)
                              have n1_ := Aside0.mk (Kd.R_drew HO_15.out)
                              have n2_ := Aside0.mk (Kd.S_drew HO_16.out)
                              have n3_ := Aside0.mk (Kd.S_drew HO_22.out)
                              have n4_ := Aside0.mk (Kd.R_drew HO_24.out)
                              have n5_ := Aside0.mk (Kd.R_drew HO_220004.out)
                              have n6_ := Aside0.mk (Kd.R_drew HL220_0.out)
                              have n7_ := Aside0.mk (blk_drew BK196.out)
                              have n8_ := Aside0.mk (blk_drew BK197.out)
                              have n9_ := Aside0.mk (blk_drew BK219.out)
                              have n10_ := Aside0.mk (Kd.C_drew HR220_0.out)
                              have n11_ := Aside0.mk (below_drew1 HB.out)
                              clear HO_14
                              clear HO_15
                              clear HO_16
                              clear HO_22
                              clear HO_24
                              clear HO_220004
                              clear HL220_0
                              clear BK196
                              clear BK197
                              clear BK219
                              clear HR220_0
                              clear HB
                              have HO_14 := n0_
                              have HO_15 := n1_
                              have HO_16 := n2_
                              have HO_22 := n3_
                              have HO_24 := n4_
                              have HO_220004 := n5_
                              have HL220_0 := n6_
                              have BK196 := n7_
                              have BK197 := n8_
                              have BK219 := n9_
                              have HR220_0 := n10_
                              have HB := n11_
                              clear n0_ n1_ n2_ n3_ n4_ n5_ n6_ n7_ n8_ n9_ n10_ n11_
                              have p221 : 0 ≤ (x23_2 : Int) := of_decide_eq_true (by first | (with_reducible assumption) | assumption)
                              have q221 : x23_2 < (t205.length : Int) := of_decide_eq_true (by first | (with_reducible assumption) | assumption)
                              obtain ⟨ad221, A221_0, c221_0, e221, hx221_0, hl221_0, hi221_0⟩ := at_L1 (Kd.S_reads' HO_16.out).2.2 x23_2 p221 q221
                              obtain rfl : ad220 = ad221 := (by injection e221)
                              obtain ⟨ce221, hce221, hMe221, hcc221⟩ := Kd.S_get HO_16.out [] x23_2 p221 (by first | exact q221 | exact of_decide_eq_true (by first | (with_reducible assumption) | assumption) | (have e_ := (Kd.S_reads' HO_16.out).1; omega))
                              obtain ⟨ve221_0, rfl, ge221_0⟩ := hMe221
                              have hv221_0 := hcc221 0 _ rfl
                              rw [Nat.add_zero, show ((Kd.slice 3 (Kd.int .i64))).sz = 1 from rfl, Nat.mul_one] at hv221_0
                              replace hv221_0 := Option.some.inj (hv221_0.symm.trans hx221_0)
                              rw [hv221_0] at ge221_0
                              have HL221_0 := Aside0.mk (show Kd.R (Kd.int .i64) 3 _ _ _ _ (rd_L1 t205 x23_2) from ge221_0)
                              clear hv221_0 ge221_0
                              clear hcc221 hce221
                              have HR221_0 := Aside0.mk hi221_0
                              have HC221_0 := Aside0.mk hl221_0
                              clear hi221_0 hl221_0
                              replace p221 := eq_true p221
                              replace q221 := eq_true q221
                              have p222 : 0 ≤ (x25_3 : Int) := of_decide_eq_true (by first | (with_reducible assumption) | assumption)
                              have q222 : x25_3 < ((rd_L1 t205 x23_2).length : Int) := of_decide_eq_true (by first | (with_reducible assumption) | assumption)
                              obtain ⟨ad222, e222, hx222_0⟩ := Kd.at_int (by repeat (first | (with_reducible exact HR221_0.out) | (with_reducible refine Kd.C_alloc ?_ _) | (with_reducible refine Kd.C_drewN ?_ _) | (with_reducible refine Kd.C_drew ?_) | exact HR221_0.out)) x25_3 p222 q222
                              cases e222
                              replace p222 := eq_true p222
                              replace q222 := eq_true q222
                              refine start_ (n := 17) (S := fun w' => w'.cell? (ad220.add (x23_2).toNat) = some (.slice (some ad222) (rd_L1 t205 x23_2).length c221_0) ∧ w'.cell? (ad222.add (x25_3).toNat) = some (.int .i64 (rd (rd_L1 t205 x23_2) x25_3))) (ds := [14, 15]) #[false, false, false, false, false, false, false, false, false, false, false, false, false, false, false, false, false] (by kernel_rfl) rfl rfl ⟨hx221_0, hx222_0⟩ (fun hHeld => ?_); refine with_tabW airchecklaw36_FingerprintBounds.tab19 airchecklaw36_FingerprintBounds.bits19 (fun HT_ HW_ => ?_)
                              generalize wr.drew = w51 at HO_14 HO_15 HO_16 HO_22 HO_24 HO_220004 HL220_0 BK196 BK197 BK219 HR220_0 HB HL221_0 HR221_0 hx221_0 hx222_0 hHeld ⊢
                              refine pure_ (i := 0) (N := some 94) (v := ?_) (a' := ?_) #[true, false, false, false, false, false, false, false, false, false, false, false, false, false, false, false, false] rfl rfl (any_of HT_.out (by kernel_rfl)) (fun _ _ _ h => h) (Or.inl ⟨by rfl, ?_⟩) ?_ ?_
                              rotate_left
                              · intro w'
                                go_simp
                                with_reducible rfl
                              rotate_left
                              · simp only [Act.put, List.setIfInBounds_toArray, List.set_cons_zero, List.set_cons_succ, i64_w, i32_w]
                                rfl
                              refine pure_ (i := 1) (N := some 95) (v := ?_) (a' := ?_) #[true, true, false, false, false, false, false, false, false, false, false, false, false, false, false, false, false] rfl rfl (any_of HT_.out (by kernel_rfl)) (fun _ _ _ h => h) (Or.inl ⟨by rfl, ?_⟩) ?_ ?_
                              rotate_left
                              · intro w'
                                go_simp
                                with_reducible rfl
                              rotate_left
                              · simp only [Act.put, List.setIfInBounds_toArray, List.set_cons_zero, List.set_cons_succ, i64_w, i32_w]
                                rfl
                              refine pure_ (i := 2) (N := some 96) (v := ?_) (a' := ?_) #[true, true, true, false, false, false, false, false, false, false, false, false, false, false, false, false, false] rfl rfl (any_of HT_.out (by kernel_rfl)) (fun _ _ _ h => h) (Or.inl ⟨by rfl, ?_⟩) ?_ ?_
                              rotate_left
                              · intro w'
                                go_simp
                                with_reducible rfl
                              rotate_left
                              · simp only [Act.put, List.setIfInBounds_toArray, List.set_cons_zero, List.set_cons_succ, i64_w, i32_w]
                                rfl
                              refine pure_ (i := 3) (N := some 97) (v := ?_) (a' := ?_) #[true, true, true, true, false, false, false, false, false, false, false, false, false, false, false, false, false] rfl rfl (any_of HT_.out (by kernel_rfl)) (fun _ _ _ h => h) (Or.inl ⟨by rfl, ?_⟩) ?_ ?_
                              rotate_left
                              · intro w'
                                go_simp
                                with_reducible rfl
                              rotate_left
                              · simp only [Act.put, List.setIfInBounds_toArray, List.set_cons_zero, List.set_cons_succ, i64_w, i32_w]
                                rfl
                              refine pure_ (i := 5) (N := some 99) (v := ?_) (a' := ?_) #[true, true, true, true, false, true, false, false, false, false, false, false, false, false, false, false, false] rfl rfl (any_of HT_.out (by kernel_rfl)) (fun _ _ _ h => h) (Or.inl ⟨by rfl, ?_⟩) ?_ ?_
                              rotate_left
                              · intro w'
                                go_simp
                                with_reducible rfl
                              rotate_left
                              · simp only [Act.put, List.setIfInBounds_toArray, List.set_cons_zero, List.set_cons_succ, i64_w, i32_w]
                                rfl
                              refine pure_ (i := 8) (N := some 102) (v := ?_) (a' := ?_) #[true, true, true, true, false, true, false, false, true, false, false, false, false, false, false, false, false] rfl rfl (any_of HT_.out (by kernel_rfl)) (fun _ _ _ h => h) (Or.inl ⟨by rfl, ?_⟩) ?_ ?_
                              rotate_left
                              · intro w'
                                go_simp
                                with_reducible rfl
                              rotate_left
                              · simp only [Act.put, List.setIfInBounds_toArray, List.set_cons_zero, List.set_cons_succ, i64_w, i32_w]
                                rfl
                              refine pure_ (i := 11) (N := some 105) (v := ?_) (a' := ?_) #[true, true, true, true, false, true, false, false, true, false, false, true, false, false, false, false, false] rfl rfl (any_of HT_.out (by kernel_rfl)) (fun _ _ _ h => h) (Or.inl ⟨by rfl, ?_⟩) ?_ ?_
                              rotate_left
                              · intro w'
                                go_simp
                                with_reducible rfl
                              rotate_left
                              · simp only [Act.put, List.setIfInBounds_toArray, List.set_cons_zero, List.set_cons_succ, i64_w, i32_w]
                                rfl
                              refine take_ (i := 4) (N := some 98) (v := ?_) (a' := ?_) #[true, true, true, true, true, true, false, false, true, false, false, true, false, false, false, false, false] rfl rfl (take_ofW HT_.out HW_.out (by kernel_rfl)) (fun _ _ _ h => h) (Or.inl ⟨by rfl, ?_⟩) hHeld ?_ ?_
                              rotate_left
                              · rintro w' ⟨s0, s1⟩
                                go_simp
                                with_reducible rfl
                              rotate_left
                              · simp only [Act.put, List.setIfInBounds_toArray, List.set_cons_zero, List.set_cons_succ, i64_w, i32_w]
                                rfl
                              refine pure_ (i := 6) (N := some 100) (v := ?_) (a' := ?_) #[true, true, true, true, true, true, true, false, true, false, false, true, false, false, false, false, false] rfl rfl (any_of HT_.out (by kernel_rfl)) (fun _ _ _ h => h) (Or.inl ⟨by rfl, ?_⟩) ?_ ?_
                              rotate_left
                              · intro w'
                                go_simp
                                with_reducible rfl
                              rotate_left
                              · simp only [Act.put, List.setIfInBounds_toArray, List.set_cons_zero, List.set_cons_succ, i64_w, i32_w]
                                rfl
                              refine take_ (i := 7) (N := some 101) (v := ?_) (a' := ?_) #[true, true, true, true, true, true, true, true, true, false, false, true, false, false, false, false, false] rfl rfl (take_ofW HT_.out HW_.out (by kernel_rfl)) (fun _ _ _ h => h) (Or.inl ⟨by rfl, ?_⟩) hHeld ?_ ?_
                              rotate_left
                              · rintro w' ⟨s0, s1⟩
                                go_simp
                                with_reducible rfl
                              rotate_left
                              · simp only [Act.put, List.setIfInBounds_toArray, List.set_cons_zero, List.set_cons_succ, i64_w, i32_w]
                                rfl
                              refine one_ (i := 9) (N := some 103) #[true, true, true, true, true, true, true, true, true, true, false, true, false, false, false, false, false] rfl rfl (one_of HT_.out (by kernel_rfl)) (by decide) (fun K hK => ?_)
                              refine goes_ Try.func33 (by kernel_rfl) rfl #[.int .i64 a3, .int .i64 8] (by rfl) rfl rfl (by (try simp only [List.map_toArray, List.map_cons, List.map_nil]); first | done | rfl | (simp only [List.length_drop, List.length_take]; rfl)) ?_
                              with_reducible refine (airchecklaw36_pick.calls a3 8 t223 _ A47.out).mono ?_
                              rintro e w' ⟨rfl, ⟨nd, rfl⟩⟩
                              refine ⟨_, rfl, ?_⟩
                              refine hK.out _ _ ⟨hHeld.1, hHeld.2⟩ (fun hHeld => ?_)
                              clear hK K
                              refine norm_ (a' := ?_) ?_ ?_
                              rotate_left
                              · show Act.put _ (some 103) _ = _
                                simp only [Act.put, List.setIfInBounds_toArray, List.set_cons_zero, List.set_cons_succ, i64_w, i32_w]
                                rfl
                              refine pure_ (i := 10) (N := some 104) (v := ?_) (a' := ?_) #[true, true, true, true, true, true, true, true, true, true, true, true, false, false, false, false, false] rfl rfl (any_of HT_.out (by kernel_rfl)) (fun _ _ _ h => h) (Or.inl ⟨by rfl, ?_⟩) ?_ ?_
                              rotate_left
                              · intro w'
                                go_simp
                                with_reducible rfl
                              rotate_left
                              · simp only [Act.put, List.setIfInBounds_toArray, List.set_cons_zero, List.set_cons_succ, i64_w, i32_w]
                                rfl
                              refine one_ (i := 12) (N := some 106) #[true, true, true, true, true, true, true, true, true, true, true, true, true, false, false, false, false] rfl rfl (one_of HT_.out (by kernel_rfl)) (by decide) (fun K hK => ?_)
                              refine goes_ Try.func33 (by kernel_rfl) rfl #[.int .i64 a2, .int .i64 100] (by rfl) rfl rfl (by (try simp only [List.map_toArray, List.map_cons, List.map_nil]); first | done | rfl | (simp only [List.length_drop, List.length_take]; rfl)) ?_
                              with_reducible refine (airchecklaw36_pick.calls a2 100 t224 _ A49.out).mono ?_
                              rintro e w' ⟨rfl, ⟨nd, rfl⟩⟩
                              refine ⟨_, rfl, ?_⟩
                              refine hK.out _ _ ⟨hHeld.1, hHeld.2⟩ (fun hHeld => ?_)
                              clear hK K
                              refine norm_ (a' := ?_) ?_ ?_
                              rotate_left
                              · show Act.put _ (some 106) _ = _
                                simp only [Act.put, List.setIfInBounds_toArray, List.set_cons_zero, List.set_cons_succ, i64_w, i32_w]
                                rfl
                              refine pure_ (i := 13) (N := some 107) (v := ?_) (a' := ?_) #[true, true, true, true, true, true, true, true, true, true, true, true, true, true, false, false, false] rfl rfl (any_of HT_.out (by kernel_rfl)) (fun _ _ _ h => h) (Or.inl ⟨by rfl, ?_⟩) ?_ ?_
                              rotate_left
                              · intro w'
                                go_simp
                                with_reducible rfl
                              rotate_left
                              · simp only [Act.put, List.setIfInBounds_toArray, List.set_cons_zero, List.set_cons_succ, i64_w, i32_w]
                                rfl
                              refine last_ (i := 14) (N := some 108) #[true, true, true, true, true, true, true, true, true, true, true, true, true, true, true, false, false] rfl rfl (one_of HT_.out (by kernel_rfl)) (by decide) (fun K hK => ?_)
                              refine value_ (w1 := ?_) (v := ?_) (by rfl) rfl ?_ ?_
                              rotate_left 2
                              · go_simp
                                constructor
                                · rfl
                                · rfl
                              refine hK.out _ _ ?_
                              clear hK K
                              refine norm_ (a' := ?_) ?_ ?_
                              rotate_left
                              · show Act.put _ (some 108) _ = _
                                simp only [Act.put, List.setIfInBounds_toArray, List.set_cons_zero, List.set_cons_succ, i64_w, i32_w]
                                rfl
                              refine last_ (i := 15) (N := some 109) #[true, true, true, true, true, true, true, true, true, true, true, true, true, true, true, true, false] rfl rfl (one_of HT_.out (by kernel_rfl)) (by decide) (fun K hK => ?_)
                              refine Kd.R_append_step (Kd.int .i64) (w0 := w) w.heap.size (by rfl) (.tmp 94) (.tmp 108) 22 3 (.int .i64 0) 8 rfl Try.underlying22 info3 rfl (by decide) (by omega) u24 x24_3 (wrap64 ((ji48) - t224)) [.int .i64 (wrap64 ((ji48) - t224))] (fun k_ => some k_ ≠ (.slice Ao20 t199.length co20 : Value).ownBlock ∧ some k_ ≠ (.slice Ao21 t202.length co21 : Value).ownBlock ∧ some k_ ≠ (.slice Ao30 t215.length co30 : Value).ownBlock) (fun _ => False) rfl rfl ?aP (fun _ hk => hk.elim) ?aF ?aO ?aB ?aS ?aL ?_
                              (case aP => exact rfl)
                              (case aB => exact (by repeat (first | (with_reducible first | exact HB.out | apply below_alloc | apply pw_below_drewN | apply below_drew1 | refine below_set ?_ GE196.out | refine below_set ?_ GE197.out | refine below_set ?_ GE219.out) | exact HB.out)))
                              (case aF => exact (fun k_ hk => ⟨Kd.fresh' (Kd.R_lt (by (with_reducible repeat (first | apply Kd.R_alloc | apply Kd.R_drewN | apply Kd.R_drew)); exact HO_14.out)) k_ hk, Kd.fresh' (Kd.R_lt (by (with_reducible repeat (first | apply Kd.R_alloc | apply Kd.R_drewN | apply Kd.R_drew)); exact HO_15.out)) k_ hk, Kd.fresh' (Kd.R_lt (by (with_reducible repeat (first | apply Kd.R_alloc | apply Kd.R_drewN | apply Kd.R_drew)); exact HO_220004.out)) k_ hk⟩))
                              (case aO => exact (by (with_reducible repeat (first | apply Kd.R_alloc | apply Kd.R_drewN | apply Kd.R_drew)); exact HO_24.out))
                              (case aS => exact (below_size (by repeat (first | (with_reducible first | exact HB.out | apply below_alloc | apply pw_below_drewN | apply below_drew1 | refine below_set ?_ GE196.out | refine below_set ?_ GE197.out | refine below_set ?_ GE219.out) | exact HB.out))))
                              (case aL => have := LMc50.out; omega)
                              intro v226 w52 ho hb hg hat
                              rw [← Ny225.out] at ho
                              have n0_ := Aside0.mk (Kd.R_after (ok := (fun k_ => some k_ ≠ (.slice Ao21 t202.length co21 : Value).ownBlock ∧ some k_ ≠ (.slice Ao30 t215.length co30 : Value).ownBlock)) (by (with_reducible repeat (first | apply Kd.R_alloc | apply Kd.R_drewN | apply Kd.R_drew)); exact Kd.R_mono HO_14.out (fun _ hk => ⟨⟨hk.1, hk.2.2⟩, hk.2.1⟩)) hg hat)
                              have n1_ := Aside0.mk (Kd.R_after (ok := (fun k_ => some k_ ≠ (.slice Ao20 t199.length co20 : Value).ownBlock ∧ some k_ ≠ (.slice Ao30 t215.length co30 : Value).ownBlock)) (by (with_reducible repeat (first | apply Kd.R_alloc | apply Kd.R_drewN | apply Kd.R_drew)); exact Kd.R_mono HO_15.out (fun _ hk => ⟨⟨hk.1, hk.2.2⟩, hk.2.1⟩)) hg hat)
                              have n2_ := Aside0.mk (Kd.S_after (ok := (fun k_ => some k_ ≠ (.slice Ao20 t199.length co20 : Value).ownBlock ∧ some k_ ≠ (.slice Ao21 t202.length co21 : Value).ownBlock ∧ some k_ ≠ (u22 : Value).ownBlock ∧ some k_ ≠ (.slice Ao30 t215.length co30 : Value).ownBlock)) (by (with_reducible repeat (first | apply Kd.S_alloc | apply Kd.S_drewN | apply Kd.S_drew)); exact Kd.S_mono HO_16.out (fun _ hk => ⟨⟨hk.1, ⟨hk.2.1, ⟨hk.2.2.1, hk.2.2.2.2⟩⟩⟩, hk.2.2.2.1⟩)) hg hat)
                              have n3_ := Aside0.mk (Kd.S_after (ok := (fun k_ => some k_ ≠ (.slice Ao20 t199.length co20 : Value).ownBlock ∧ some k_ ≠ (.slice Ao21 t202.length co21 : Value).ownBlock ∧ some k_ ≠ (.slice (some ad220) t205.length co23 : Value).ownBlock ∧ some k_ ≠ (.slice Ao30 t215.length co30 : Value).ownBlock)) (by (with_reducible repeat (first | apply Kd.S_alloc | apply Kd.S_drewN | apply Kd.S_drew)); exact Kd.S_mono HO_22.out (fun _ hk => ⟨⟨hk.1, ⟨hk.2.1, ⟨hk.2.2.1, hk.2.2.2.2⟩⟩⟩, hk.2.2.2.1⟩)) hg hat)
                              have n4_ := Aside0.mk (Kd.R_after (ok := (fun k_ => some k_ ≠ (.slice Ao20 t199.length co20 : Value).ownBlock ∧ some k_ ≠ (.slice Ao21 t202.length co21 : Value).ownBlock)) (by (with_reducible repeat (first | apply Kd.R_alloc | apply Kd.R_drewN | apply Kd.R_drew)); exact Kd.R_mono HO_220004.out (fun _ hk => ⟨⟨hk.1, hk.2.1⟩, hk.2.2⟩)) hg hat)
                              have n5_ := Aside0.mk (blk_grown (g := gb196) (o := .cells #[.int .i64 a4_0, .int .i64 a4_1, .int .i64 a4_2] 29 (0, 0)) (by (with_reducible repeat (first | refine blk_drewN ?_ _ | refine blk_drew ?_ | refine blk_alloc ?_ _)); exact BK196.out) hg (Kd.R_ne HO_24.out BK196.out (by decide)))
                              have n6_ := Aside0.mk (blk_grown (g := gb197) (o := .cells #[.int .i64 a5_0, .int .i64 a5_1, .int .i64 a5_2, .int .i64 a5_3, .slice A5_4 l5_4.length c5_4] 25 (0, 0)) (by (with_reducible repeat (first | refine blk_drewN ?_ _ | refine blk_drew ?_ | refine blk_alloc ?_ _)); exact BK197.out) hg (Kd.R_ne HO_24.out BK197.out (by decide)))
                              have n7_ := Aside0.mk (blk_grown (g := gb219) (o := .cells #[.int .i64 t211, .int .i64 t212, .int .i64 t213, .int .i64 t214, .slice Ao30 t215.length co30] 25 (0, 0)) (by (with_reducible repeat (first | refine blk_drewN ?_ _ | refine blk_drew ?_ | refine blk_alloc ?_ _)); exact BK219.out) hg (Kd.R_ne HO_24.out BK219.out (by decide)))
                              have n8_ := Aside0.mk (Kd.R_after (ok := (fun k_ => some k_ ≠ (.slice Ao20 t199.length co20 : Value).ownBlock ∧ some k_ ≠ (.slice Ao21 t202.length co21 : Value).ownBlock ∧ some k_ ≠ (.slice (some ad220) t205.length co23 : Value).ownBlock ∧ some k_ ≠ (u22 : Value).ownBlock ∧ some k_ ≠ (.slice Ao30 t215.length co30 : Value).ownBlock)) (by (with_reducible repeat (first | apply Kd.R_alloc | apply Kd.R_drewN | apply Kd.R_drew)); exact Kd.R_mono HL220_0.out (fun _ hk => ⟨⟨hk.1.1, ⟨hk.1.2.1, ⟨hk.2, ⟨hk.1.2.2.1, hk.1.2.2.2.2⟩⟩⟩⟩, hk.1.2.2.2.1⟩)) hg hat)
                              have n9_ := Aside0.mk (Kd.R_after (ok := (fun k_ => some k_ ≠ (.slice Ao20 t199.length co20 : Value).ownBlock ∧ some k_ ≠ (.slice Ao21 t202.length co21 : Value).ownBlock ∧ some k_ ≠ (.slice (some ad220) t205.length co23 : Value).ownBlock ∧ some k_ ≠ (u22 : Value).ownBlock ∧ some k_ ≠ (.slice Ao30 t215.length co30 : Value).ownBlock)) (by (with_reducible repeat (first | apply Kd.R_alloc | apply Kd.R_drewN | apply Kd.R_drew)); exact Kd.R_mono HL221_0.out (fun _ hk => ⟨⟨hk.1.1, ⟨hk.1.2.1, ⟨hk.2, ⟨hk.1.2.2.1, hk.1.2.2.2.2⟩⟩⟩⟩, hk.1.2.2.2.1⟩)) hg hat)
                              have n10_ := Aside0.mk (hb)
                              have n11_ := Aside0.mk (ho)
                              clear HO_14
                              clear HO_15
                              clear HO_16
                              clear HO_22
                              clear HO_220004
                              clear BK196
                              clear BK197
                              clear BK219
                              clear HL220_0
                              clear HL221_0
                              clear HB
                              clear HO_24
                              have HO_14 := n0_
                              have HO_15 := n1_
                              have HO_16 := n2_
                              have HO_22 := n3_
                              have HO_220004 := n4_
                              have BK196 := n5_
                              have BK197 := n6_
                              have BK219 := n7_
                              have HL220_0 := n8_
                              have HL221_0 := n9_
                              have HB := n10_
                              have HO227 := n11_
                              clear n0_ n1_ n2_ n3_ n4_ n5_ n6_ n7_ n8_ n9_ n10_ n11_
                              clear ho hb hg hat
                              refine hK.out _ _ ?_
                              clear hK K
                              refine norm_ (a' := ?_) ?_ ?_
                              rotate_left
                              · show Act.put _ (some 109) _ = _
                                simp only [Act.put, List.setIfInBounds_toArray, List.set_cons_zero, List.set_cons_succ, i64_w, i32_w]
                                rfl
                              refine pure_ (i := 16) (N := some 24) (v := ?_) (a' := ?_) #[true, true, true, true, true, true, true, true, true, true, true, true, true, true, true, true, true] rfl rfl (any_of HT_.out (by kernel_rfl)) (fun _ _ _ h => h) (Or.inl ⟨by rfl, ?_⟩) ?_ ?_
                              rotate_left
                              · intro w'
                                go_simp
                                with_reducible rfl
                              rotate_left
                              · simp only [Act.put, List.setIfInBounds_toArray, List.set_cons_zero, List.set_cons_succ, i64_w, i32_w]
                                rfl
                              refine done_ (done_of HT_.out (by kernel_rfl)) ?_
                              try go_wp2
                              go_roundg k3
                              case measure => have := HJ13.out; have := HK2.out; have := HK3.out; omega
                              case rel => exact ⟨(y225), (wrap64 (x25_3 + 1)), (by first | rfl | (simp; done) | (simp [*]; done)), H', ⟨by have := HJ13.out; have := HK2.out; have := HK3.out; omega⟩, ⟨by (with_reducible repeat (first | apply Kd.R_alloc | apply Kd.R_drewN | apply Kd.R_drew)); exact Kd.R_mono HO_14.out (fun _ hk => ⟨hk.1.1, ⟨hk.2, hk.1.2⟩⟩)⟩, ⟨by (with_reducible repeat (first | apply Kd.R_alloc | apply Kd.R_drewN | apply Kd.R_drew)); exact Kd.R_mono HO_15.out (fun _ hk => ⟨hk.1.1, ⟨hk.2, hk.1.2⟩⟩)⟩, ⟨by (with_reducible repeat (first | apply Kd.S_alloc | apply Kd.S_drewN | apply Kd.S_drew)); exact Kd.S_mono HO_16.out (fun _ hk => ⟨hk.1.1, ⟨hk.1.2.1, ⟨hk.1.2.2.1, ⟨hk.2, hk.1.2.2.2⟩⟩⟩⟩)⟩, ⟨by (with_reducible repeat (first | apply Kd.S_alloc | apply Kd.S_drewN | apply Kd.S_drew)); exact Kd.S_mono HO_22.out (fun _ hk => ⟨hk.1.1, ⟨hk.1.2.1, ⟨hk.1.2.2.1, ⟨hk.2, hk.1.2.2.2⟩⟩⟩⟩)⟩, ⟨by (with_reducible repeat (first | apply Kd.R_alloc | apply Kd.R_drewN | apply Kd.R_drew)); exact HO227.out⟩, ⟨by (with_reducible repeat (first | apply Kd.R_alloc | apply Kd.R_drewN | apply Kd.R_drew)); exact Kd.R_mono HO_220004.out (fun _ hk => ⟨hk.1.1, ⟨hk.1.2, hk.2⟩⟩)⟩, ⟨by (with_reducible repeat (first | refine blk_drewN ?_ _ | refine blk_drew ?_ | refine blk_alloc ?_ _)); exact BK196.out⟩, ⟨by (with_reducible repeat (first | refine blk_drewN ?_ _ | refine blk_drew ?_ | refine blk_alloc ?_ _)); exact BK197.out⟩, ⟨by (with_reducible repeat (first | refine blk_drewN ?_ _ | refine blk_drew ?_ | refine blk_alloc ?_ _)); exact BK219.out⟩, ⟨by repeat (first | (with_reducible first | exact HB.out | apply below_alloc | apply pw_below_drewN | apply below_drew1 | refine below_set ?_ GE196.out | refine below_set ?_ GE197.out | refine below_set ?_ GE219.out) | exact HB.out)⟩⟩
                            · rw [if_neg c50] at H
                              exact absurd H (by simp)
                          · rw [if_neg c46] at H
                            exact absurd H (by simp)
                        · rw [if_neg c45] at H
                          have c45b0 : decide (x25_3 < ((rd_L1 t205 x23_2).length : Int)) = false := decide_eq_false c45
                          clear c45
                          by_cases c53 : x22_2.length < 5864062014805
                          · rw [if_pos c53] at H
                            have LMc53 := Aside0.mk c53
                            clear c53
                            obtain ⟨y228, hy228⟩ : ∃ y_ : List (List Int), y_ = (x22_2 ++ [x24_3]) := ⟨_, rfl⟩
                            replace H : (airchecklaw36_FingerprintBounds.l0 k3 a2 a3 t199 t202 t205 t209 y228 (wrap64 (x23_2 + 1)) a4_0 a4_1 a4_2 a5_0 a5_1 a5_2 a5_3 l5_4) = some r := by first | (rw [hy228]; with_reducible exact H) | (have H2_ := (Option.bind_some _ _).symm.trans H; rw [hy228]; with_reducible exact H2_) | (have H2_ := (Option.bind_some _ _).symm.trans H; with_reducible exact H2_) | with_reducible exact H | (rw [hy228]; exact H) | exact H
                            have Ny228 := Aside0.mk hy228
                            clear hy228
                            have H' := Aside0.mk H
                            clear H
                            have p220 : 0 ≤ (x23_2 : Int) := of_decide_eq_true (by first | (with_reducible assumption) | assumption)
                            have q220 : x23_2 < (t205.length : Int) := of_decide_eq_true (by first | (with_reducible assumption) | assumption)
                            obtain ⟨ad220, A220_0, c220_0, e220, hx220_0, hl220_0, hi220_0⟩ := at_L1 (Kd.S_reads' HO_16.out).2.2 x23_2 p220 q220
                            cases e220
                            obtain ⟨ce220, hce220, hMe220, hcc220⟩ := Kd.S_get HO_16.out [] x23_2 p220 (by first | exact q220 | exact of_decide_eq_true (by first | (with_reducible assumption) | assumption) | (have e_ := (Kd.S_reads' HO_16.out).1; omega))
                            obtain ⟨ve220_0, rfl, ge220_0⟩ := hMe220
                            have hv220_0 := hcc220 0 _ rfl
                            rw [Nat.add_zero, show ((Kd.slice 3 (Kd.int .i64))).sz = 1 from rfl, Nat.mul_one] at hv220_0
                            replace hv220_0 := Option.some.inj (hv220_0.symm.trans hx220_0)
                            rw [hv220_0] at ge220_0
                            have HL220_0 := Aside0.mk (show Kd.R (Kd.int .i64) 3 _ _ _ _ (rd_L1 t205 x23_2) from ge220_0)
                            clear hv220_0 ge220_0
                            clear hcc220 hce220
                            have HR220_0 := Aside0.mk hi220_0
                            have HC220_0 := Aside0.mk hl220_0
                            clear hi220_0 hl220_0
                            replace p220 := eq_true p220
                            replace q220 := eq_true q220
                            obtain ⟨Ao55, co55, eo55⟩ := Kd.R_slice HO_24.out
                            subst eo55
                            go_wp2_with (first | ((with_reducible refine gate_builtin (b := .append) (xs := #[.tmp 110, .tmp 112]) rfl ?_); (try (refine gate_guard (by rfl) ?_; dsimp only)); at_builtin; refine Kd.S_append (Kd.slice 3 (Kd.int .i64)) (w0 := w) w.heap.size rfl (.tmp 110) (.tmp 112) 26 22 (.slice none 0 0) 24 rfl Try.underlying26 info22 rfl (by decide) (by omega) u22 x22_2 x24_3 [.slice Ao55 x24_3.length co55] (fun k_ => some k_ ≠ (.slice Ao20 t199.length co20 : Value).ownBlock ∧ some k_ ≠ (.slice Ao21 t202.length co21 : Value).ownBlock ∧ some k_ ≠ (.slice (some ad220) t205.length co23 : Value).ownBlock ∧ some k_ ≠ (.slice Ao30 t215.length co30 : Value).ownBlock) (fun k_ => some k_ = (.slice Ao55 x24_3.length co55 : Value).ownBlock) rfl rfl ?aP (fun k_ hk_ => ((Kd.R_mono (ok' := fun k_ => ((fun k_ => some k_ ≠ (.slice Ao20 t199.length co20 : Value).ownBlock ∧ some k_ ≠ (.slice Ao21 t202.length co21 : Value).ownBlock ∧ some k_ ≠ (.slice (some ad220) t205.length co23 : Value).ownBlock ∧ some k_ ≠ (.slice Ao30 t215.length co30 : Value).ownBlock)) k_ ∧ some k_ ≠ (u22 : Value).ownBlock) (Kd.R_apart' (Kd.R_apart' (HO_24.out) (Kd.S_typed HO_16.out) (by decide)) (Kd.S_typed HO_22.out) (by decide)) (fun k_ hk => ⟨⟨hk.1.1.1, ⟨hk.1.1.2.1, ⟨hk.1.2, hk.1.1.2.2⟩⟩⟩, hk.2⟩))).1 k_ hk_.symm) ?aF ?aO ?aB ?aS ?aL ?_; (case aP => exact Kd.M_row (Kd.R_mono (Kd.R_tight rfl (Kd.R_mono (ok' := fun k_ => ((fun k_ => some k_ ≠ (.slice Ao20 t199.length co20 : Value).ownBlock ∧ some k_ ≠ (.slice Ao21 t202.length co21 : Value).ownBlock ∧ some k_ ≠ (.slice (some ad220) t205.length co23 : Value).ownBlock ∧ some k_ ≠ (.slice Ao30 t215.length co30 : Value).ownBlock)) k_ ∧ some k_ ≠ (u22 : Value).ownBlock) (Kd.R_apart' (Kd.R_apart' (HO_24.out) (Kd.S_typed HO_16.out) (by decide)) (Kd.S_typed HO_22.out) (by decide)) (fun k_ hk => ⟨⟨hk.1.1.1, ⟨hk.1.1.2.1, ⟨hk.1.2, hk.1.1.2.2⟩⟩⟩, hk.2⟩))) (fun _ h_ => h_))); (case aB => exact (by repeat (first | (with_reducible first | exact HB.out | apply below_alloc | apply pw_below_drewN | apply below_drew1 | refine below_set ?_ GE196.out | refine below_set ?_ GE197.out | refine below_set ?_ GE219.out) | exact HB.out))); (case aF => exact (fun k_ hk => ⟨Kd.fresh' (Kd.R_lt (by (with_reducible repeat (first | apply Kd.R_alloc | apply Kd.R_drewN | apply Kd.R_drew)); exact HO_14.out)) k_ hk, Kd.fresh' (Kd.R_lt (by (with_reducible repeat (first | apply Kd.R_alloc | apply Kd.R_drewN | apply Kd.R_drew)); exact HO_15.out)) k_ hk, Kd.fresh' (Kd.S_lt (by (with_reducible repeat (first | apply Kd.S_alloc | apply Kd.S_drewN | apply Kd.S_drew)); exact HO_16.out)) k_ hk, Kd.fresh' (Kd.R_lt (by (with_reducible repeat (first | apply Kd.R_alloc | apply Kd.R_drewN | apply Kd.R_drew)); exact HO_220004.out)) k_ hk⟩)); (case aO => exact (by (with_reducible repeat (first | apply Kd.S_alloc | apply Kd.S_drewN | apply Kd.S_drew)); exact Kd.S_mono HO_22.out (fun k_ hk => ⟨⟨hk.1, ⟨hk.2.1, ⟨hk.2.2.1, hk.2.2.2.2⟩⟩⟩, fun e_ => hk.2.2.2.1 e_⟩))); (case aS => exact (below_size (by repeat (first | (with_reducible first | exact HB.out | apply below_alloc | apply pw_below_drewN | apply below_drew1 | refine below_set ?_ GE196.out | refine below_set ?_ GE197.out | refine below_set ?_ GE219.out) | exact HB.out)))); (case aL => have := LMc53.out; omega); intro v229 w54 ho hb hg hat; rw [← Ny228.out] at ho; have n0_ := Aside0.mk (Kd.R_over' (by (with_reducible repeat (first | apply Kd.R_alloc | apply Kd.R_drewN | apply Kd.R_drew)); exact HO_14.out) (Kd.S_typed (by (with_reducible repeat (first | apply Kd.S_alloc | apply Kd.S_drewN | apply Kd.S_drew)); exact HO_22.out)) (by decide) hg); have n1_ := Aside0.mk (Kd.R_over' (by (with_reducible repeat (first | apply Kd.R_alloc | apply Kd.R_drewN | apply Kd.R_drew)); exact HO_15.out) (Kd.S_typed (by (with_reducible repeat (first | apply Kd.S_alloc | apply Kd.S_drewN | apply Kd.S_drew)); exact HO_22.out)) (by decide) hg); have n2_ := Aside0.mk (Kd.S_after (ok := (fun k_ => some k_ ≠ (.slice Ao20 t199.length co20 : Value).ownBlock ∧ some k_ ≠ (.slice Ao21 t202.length co21 : Value).ownBlock ∧ some k_ ≠ (.slice Ao55 x24_3.length co55 : Value).ownBlock ∧ some k_ ≠ (.slice Ao30 t215.length co30 : Value).ownBlock)) (by (with_reducible repeat (first | apply Kd.S_alloc | apply Kd.S_drewN | apply Kd.S_drew)); exact Kd.S_mono HO_16.out (fun _ hk => ⟨⟨hk.1, ⟨hk.2.1, ⟨hk.2.2.2.1, hk.2.2.2.2⟩⟩⟩, hk.2.2.1⟩)) hg hat); have n3_ := Aside0.mk (Kd.R_over' (by (with_reducible repeat (first | apply Kd.R_alloc | apply Kd.R_drewN | apply Kd.R_drew)); exact HO_220004.out) (Kd.S_typed (by (with_reducible repeat (first | apply Kd.S_alloc | apply Kd.S_drewN | apply Kd.S_drew)); exact HO_22.out)) (by decide) hg); have n4_ := Aside0.mk (blk_grown (g := gb196) (o := .cells #[.int .i64 a4_0, .int .i64 a4_1, .int .i64 a4_2] 29 (0, 0)) (by (with_reducible repeat (first | refine blk_drewN ?_ _ | refine blk_drew ?_ | refine blk_alloc ?_ _)); exact BK196.out) hg (Kd.S_ne HO_22.out BK196.out (by decide))); have n5_ := Aside0.mk (blk_grown (g := gb197) (o := .cells #[.int .i64 a5_0, .int .i64 a5_1, .int .i64 a5_2, .int .i64 a5_3, .slice A5_4 l5_4.length c5_4] 25 (0, 0)) (by (with_reducible repeat (first | refine blk_drewN ?_ _ | refine blk_drew ?_ | refine blk_alloc ?_ _)); exact BK197.out) hg (Kd.S_ne HO_22.out BK197.out (by decide))); have n6_ := Aside0.mk (blk_grown (g := gb219) (o := .cells #[.int .i64 t211, .int .i64 t212, .int .i64 t213, .int .i64 t214, .slice Ao30 t215.length co30] 25 (0, 0)) (by (with_reducible repeat (first | refine blk_drewN ?_ _ | refine blk_drew ?_ | refine blk_alloc ?_ _)); exact BK219.out) hg (Kd.S_ne HO_22.out BK219.out (by decide))); have n7_ := Aside0.mk (Kd.R_after (ok := (fun k_ => some k_ ≠ (.slice Ao20 t199.length co20 : Value).ownBlock ∧ some k_ ≠ (.slice Ao21 t202.length co21 : Value).ownBlock ∧ some k_ ≠ (.slice (some ad220) t205.length co23 : Value).ownBlock ∧ some k_ ≠ (.slice Ao55 x24_3.length co55 : Value).ownBlock ∧ some k_ ≠ (.slice Ao30 t215.length co30 : Value).ownBlock)) (by (with_reducible repeat (first | apply Kd.R_alloc | apply Kd.R_drewN | apply Kd.R_drew)); exact Kd.R_mono HL220_0.out (fun _ hk => ⟨⟨hk.1.1, ⟨hk.1.2.1, ⟨hk.2, ⟨hk.1.2.2.2.1, hk.1.2.2.2.2⟩⟩⟩⟩, hk.1.2.2.1⟩)) hg hat); have n8_ := Aside0.mk (hb); have n9_ := Aside0.mk (ho); clear HO_14; clear HO_15; clear HO_16; clear HO_220004; clear BK196; clear BK197; clear BK219; clear HL220_0; clear HB; clear HO_22; clear HO_24; have HO_14 := n0_; have HO_15 := n1_; have HO_16 := n2_; have HO_220004 := n3_; have BK196 := n4_; have BK197 := n5_; have BK219 := n6_; have HL220_0 := n7_; have HB := n8_; have HO230 := n9_; clear n0_ n1_ n2_ n3_ n4_ n5_ n6_ n7_ n8_ n9_; clear ho hb hg hat))
                            go_roundg k3
                            case measure => have := HJ13.out; have := HK2.out; have := HK3.out; omega
                            case rel => exact ⟨(y228), (wrap64 (x23_2 + 1)), (by first | rfl | (simp; done) | (simp [*]; done)), H', ⟨by have := HJ13.out; have := HK2.out; have := HK3.out; omega⟩, ⟨by (with_reducible repeat (first | apply Kd.R_alloc | apply Kd.R_drewN | apply Kd.R_drew)); exact Kd.R_mono HO_14.out (fun _ hk => ⟨hk.1, hk.2.2⟩)⟩, ⟨by (with_reducible repeat (first | apply Kd.R_alloc | apply Kd.R_drewN | apply Kd.R_drew)); exact Kd.R_mono HO_15.out (fun _ hk => ⟨hk.1, hk.2.2⟩)⟩, ⟨by (with_reducible repeat (first | apply Kd.S_alloc | apply Kd.S_drewN | apply Kd.S_drew)); exact Kd.S_mono HO_16.out (fun _ hk => ⟨hk.1.1, ⟨hk.1.2.1, ⟨hk.2, hk.1.2.2.2⟩⟩⟩)⟩, ⟨by (with_reducible repeat (first | apply Kd.S_alloc | apply Kd.S_drewN | apply Kd.S_drew)); exact HO230.out⟩, ⟨by (with_reducible repeat (first | apply Kd.R_alloc | apply Kd.R_drewN | apply Kd.R_drew)); exact Kd.R_mono HO_220004.out (fun _ hk => ⟨hk.1, hk.2.1⟩)⟩, ⟨by (with_reducible repeat (first | refine blk_drewN ?_ _ | refine blk_drew ?_ | refine blk_alloc ?_ _)); exact BK196.out⟩, ⟨by (with_reducible repeat (first | refine blk_drewN ?_ _ | refine blk_drew ?_ | refine blk_alloc ?_ _)); exact BK197.out⟩, ⟨by (with_reducible repeat (first | refine blk_drewN ?_ _ | refine blk_drew ?_ | refine blk_alloc ?_ _)); exact BK219.out⟩, ⟨by repeat (first | (with_reducible first | exact HB.out | apply below_alloc | apply pw_below_drewN | apply below_drew1 | refine below_set ?_ GE196.out | refine below_set ?_ GE197.out | refine below_set ?_ GE219.out) | exact HB.out)⟩⟩
                          · rw [if_neg c53] at H
                            exact absurd H (by simp)
                      · rw [if_neg c44] at H
                        exact absurd H (by simp)
                    · rw [if_neg c43] at H
                      exact absurd H (by simp)
              · rw [if_neg c42] at H
                have c42b0 : decide (x23_2 < (t205.length : Int)) = false := decide_eq_false c42
                clear c42
                replace H := Option.bind_eq_some_iff.mp H
                obtain ⟨⟨t231, t232⟩, A560, H⟩ := H
                replace H : (if t232 = true then (airchecklaw36_FingerprintBounds.j3 k2 t199 t202 t209 x22_2 (decide (t231 > t209)) a4_0 a4_1 a4_2 a5_0 a5_1 a5_2 a5_3 l5_4) else (airchecklaw36_FingerprintBounds.j3 k2 t199 t202 t209 x22_2 true a4_0 a4_1 a4_2 a5_0 a5_1 a5_2 a5_3 l5_4)) = some r := H
                have A56 := Aside0.mk A560
                clear A560
                have HC57 := Aside0.mk H
                clear H
                obtain ⟨Ao58, co58, eo58⟩ := Kd.S_slice HO_22.out
                subst eo58
                go_upto_region 22 with (first | ((with_reducible refine gate_callee (f := 31) rfl ?_); refine goesL_ (some 118) rfl rfl Try.func31 (by kernel_rfl) rfl #[.slice Ao20 t199.length co20, .slice Ao21 t202.length co21, .slice Ao58 x22_2.length co58] rfl (by (try simp only [List.map_toArray, List.map_cons, List.map_nil]); first | done | rfl | (simp only [List.length_drop, List.length_take]; rfl)) ?_; (with_reducible refine (fingerprint_Bound.calls k2 _ _ t199 _ _ t202 _ _ x22_2 t231 t232 _ ?side1 ?side2 ?side3 ?side4 ?side5 ?side6 A56.out).mono ?_); (case side1 => repeat (first | exact (Kd.R_reads' HO_14.out).2.2 | (with_reducible refine Kd.C_alloc ?_ _) | (with_reducible refine Kd.C_drewN ?_ _) | (with_reducible refine Kd.C_drew ?_))); (case side2 => exact (Kd.R_reads' HO_14.out).2.1); (case side3 => repeat (first | exact (Kd.R_reads' HO_15.out).2.2 | (with_reducible refine Kd.C_alloc ?_ _) | (with_reducible refine Kd.C_drewN ?_ _) | (with_reducible refine Kd.C_drew ?_))); (case side4 => exact (Kd.R_reads' HO_15.out).2.1); (case side5 => repeat (first | exact (Kd.S_reads' HO_22.out).2.2 | (with_reducible refine Kd.C_alloc ?_ _) | (with_reducible refine Kd.C_drewN ?_ _) | (with_reducible refine Kd.C_drew ?_))); (case side6 => exact (Kd.S_reads' HO_22.out).2.1); rintro e w59 ⟨rfl, hb⟩; refine ⟨_, rfl, ?_⟩; have n0_ := Aside0.mk (Kd.R_below (by (with_reducible repeat (first | apply Kd.R_alloc | apply Kd.R_drewN | apply Kd.R_drew)); exact HO_14.out) hb); have n1_ := Aside0.mk (Kd.R_below (by (with_reducible repeat (first | apply Kd.R_alloc | apply Kd.R_drewN | apply Kd.R_drew)); exact HO_15.out) hb); have n2_ := Aside0.mk (Kd.S_below (by (with_reducible repeat (first | apply Kd.S_alloc | apply Kd.S_drewN | apply Kd.S_drew)); exact HO_16.out) hb); have n3_ := Aside0.mk (Kd.S_below (by (with_reducible repeat (first | apply Kd.S_alloc | apply Kd.S_drewN | apply Kd.S_drew)); exact HO_22.out) hb); have n4_ := Aside0.mk (Kd.R_below (by (with_reducible repeat (first | apply Kd.R_alloc | apply Kd.R_drewN | apply Kd.R_drew)); exact HO_220004.out) hb); have n5_ := Aside0.mk (blk_below (g := gb196) (o := .cells #[.int .i64 a4_0, .int .i64 a4_1, .int .i64 a4_2] 29 (0, 0)) (by (with_reducible repeat (first | refine blk_drewN ?_ _ | refine blk_drew ?_ | refine blk_alloc ?_ _)); exact BK196.out) hb); have n6_ := Aside0.mk (blk_below (g := gb197) (o := .cells #[.int .i64 a5_0, .int .i64 a5_1, .int .i64 a5_2, .int .i64 a5_3, .slice A5_4 l5_4.length c5_4] 25 (0, 0)) (by (with_reducible repeat (first | refine blk_drewN ?_ _ | refine blk_drew ?_ | refine blk_alloc ?_ _)); exact BK197.out) hb); have n7_ := Aside0.mk (blk_below (g := gb219) (o := .cells #[.int .i64 t211, .int .i64 t212, .int .i64 t213, .int .i64 t214, .slice Ao30 t215.length co30] 25 (0, 0)) (by (with_reducible repeat (first | refine blk_drewN ?_ _ | refine blk_drew ?_ | refine blk_alloc ?_ _)); exact BK219.out) hb); have n8_ := Aside0.mk (below_step (by repeat (first | (with_reducible first | exact HB.out | apply below_alloc | apply pw_below_drewN | apply below_drew1 | refine below_set ?_ GE196.out | refine below_set ?_ GE197.out | refine below_set ?_ GE219.out) | exact HB.out)) hb); clear HO_14; clear HO_15; clear HO_16; clear HO_22; clear HO_220004; clear BK196; clear BK197; clear BK219; clear HB; have HO_14 := n0_; have HO_15 := n1_; have HO_16 := n2_; have HO_22 := n3_; have HO_220004 := n4_; have BK196 := n5_; have BK197 := n6_; have BK219 := n7_; have HB := n8_; clear n0_ n1_ n2_ n3_ n4_ n5_ n6_ n7_ n8_; (try clear hb); (try clear hb2); (try clear hk); (try clear hi)))
                (try simp only [Act.put, List.setIfInBounds_toArray, List.set_cons_zero, List.set_cons_succ])
                go_cut [127] (fun v127 wc => ∃ (kq : Nat) (x127_56 : Bool), v127 = .bool x127_56 ∧ Aside0 (airchecklaw36_FingerprintBounds.j3 kq t199 t202 t209 x22_2 x127_56 a4_0 a4_1 a4_2 a5_0 a5_1 a5_2 a5_3 l5_4 = some r) ∧ Aside0 (kq ≤ k2) ∧ Aside0 (Kd.R (Kd.int .i64) 3 wc w.heap.size (fun k_ => some k_ ≠ ((.slice Ao21 t202.length co21) : Value).ownBlock ∧ some k_ ≠ ((.slice Ao30 t215.length co30) : Value).ownBlock) (.slice Ao20 t199.length co20) t199) ∧ Aside0 (Kd.R (Kd.int .i64) 3 wc w.heap.size (fun k_ => some k_ ≠ ((.slice Ao20 t199.length co20) : Value).ownBlock ∧ some k_ ≠ ((.slice Ao30 t215.length co30) : Value).ownBlock) (.slice Ao21 t202.length co21) t202) ∧ Aside0 (Kd.S (Kd.slice 3 (Kd.int .i64)) 22 wc w.heap.size (fun k_ => some k_ ≠ ((.slice Ao20 t199.length co20) : Value).ownBlock ∧ some k_ ≠ ((.slice Ao21 t202.length co21) : Value).ownBlock ∧ some k_ ≠ ((.slice Ao30 t215.length co30) : Value).ownBlock) (.slice Ao58 x22_2.length co58) x22_2) ∧ Aside0 (Kd.R (Kd.int .i64) 3 wc w.heap.size (fun k_ => some k_ ≠ ((.slice Ao20 t199.length co20) : Value).ownBlock ∧ some k_ ≠ ((.slice Ao21 t202.length co21) : Value).ownBlock) (.slice Ao30 t215.length co30) t215) ∧ Aside0 (wc.heap[gb196]? = some (.cells #[.int .i64 a4_0, .int .i64 a4_1, .int .i64 a4_2] 29 (0, 0))) ∧ Aside0 (wc.heap[gb197]? = some (.cells #[.int .i64 a5_0, .int .i64 a5_1, .int .i64 a5_2, .int .i64 a5_3, (.slice A5_4 l5_4.length c5_4)] 25 (0, 0))) ∧ Aside0 (wc.heap[gb219]? = some (.cells #[.int .i64 t211, .int .i64 t212, .int .i64 t213, .int .i64 t214, (.slice Ao30 t215.length co30)] 25 (0, 0))) ∧ Aside0 (Below w.heap.size w wc))
                case first =>
                  have H := HC57.out
                  clear HC57
                  by_cases c60 : t232 = true
                  · subst c60
                    have H1 : (airchecklaw36_FingerprintBounds.j3 k2 t199 t202 t209 x22_2 (decide (t231 > t209)) a4_0 a4_1 a4_2 a5_0 a5_1 a5_2 a5_3 l5_4) = some r := by rw [if_pos rfl] at H; exact H
                    clear H
                    have H := H1
                    clear H1
                    have H' := Aside0.mk H
                    clear H
                    go_wp2
                    go_meet
                    case rel => exact ⟨_, (decide (t231 > t209)), (by first | rfl | (simp; done) | (simp [*]; done)), H', ⟨by have := HJ13.out; have := HK2.out; first | omega | exact Nat.le_refl _⟩, ⟨by (with_reducible repeat (first | apply Kd.R_alloc | apply Kd.R_drewN | apply Kd.R_drew)); exact HO_14.out⟩, ⟨by (with_reducible repeat (first | apply Kd.R_alloc | apply Kd.R_drewN | apply Kd.R_drew)); exact HO_15.out⟩, ⟨by (with_reducible repeat (first | apply Kd.S_alloc | apply Kd.S_drewN | apply Kd.S_drew)); exact Kd.S_mono HO_22.out (fun _ hk => ⟨hk.1, ⟨hk.2.1, hk.2.2.2⟩⟩)⟩, ⟨by (with_reducible repeat (first | apply Kd.R_alloc | apply Kd.R_drewN | apply Kd.R_drew)); exact HO_220004.out⟩, ⟨by (with_reducible repeat (first | refine blk_drewN ?_ _ | refine blk_drew ?_ | refine blk_alloc ?_ _)); exact BK196.out⟩, ⟨by (with_reducible repeat (first | refine blk_drewN ?_ _ | refine blk_drew ?_ | refine blk_alloc ?_ _)); exact BK197.out⟩, ⟨by (with_reducible repeat (first | refine blk_drewN ?_ _ | refine blk_drew ?_ | refine blk_alloc ?_ _)); exact BK219.out⟩, ⟨by repeat (first | (with_reducible first | exact HB.out | apply below_alloc | apply pw_below_drewN | apply below_drew1 | refine below_set ?_ GE196.out | refine below_set ?_ GE197.out | refine below_set ?_ GE219.out) | exact HB.out)⟩⟩
                  · replace c60 := Bool.eq_false_iff.mpr c60
                    subst c60
                    have H1 : (airchecklaw36_FingerprintBounds.j3 k2 t199 t202 t209 x22_2 true a4_0 a4_1 a4_2 a5_0 a5_1 a5_2 a5_3 l5_4) = some r := by rw [if_neg (show ¬ (false = true) by decide)] at H; exact H
                    clear H
                    have H := H1
                    clear H1
                    have H' := Aside0.mk H
                    clear H
                    go_wp2
                    go_meet
                    case rel => exact ⟨_, (true), (by first | rfl | (simp; done) | (simp [*]; done)), H', ⟨by have := HJ13.out; have := HK2.out; first | omega | exact Nat.le_refl _⟩, ⟨by (with_reducible repeat (first | apply Kd.R_alloc | apply Kd.R_drewN | apply Kd.R_drew)); exact HO_14.out⟩, ⟨by (with_reducible repeat (first | apply Kd.R_alloc | apply Kd.R_drewN | apply Kd.R_drew)); exact HO_15.out⟩, ⟨by (with_reducible repeat (first | apply Kd.S_alloc | apply Kd.S_drewN | apply Kd.S_drew)); exact Kd.S_mono HO_22.out (fun _ hk => ⟨hk.1, ⟨hk.2.1, hk.2.2.2⟩⟩)⟩, ⟨by (with_reducible repeat (first | apply Kd.R_alloc | apply Kd.R_drewN | apply Kd.R_drew)); exact HO_220004.out⟩, ⟨by (with_reducible repeat (first | refine blk_drewN ?_ _ | refine blk_drew ?_ | refine blk_alloc ?_ _)); exact BK196.out⟩, ⟨by (with_reducible repeat (first | refine blk_drewN ?_ _ | refine blk_drew ?_ | refine blk_alloc ?_ _)); exact BK197.out⟩, ⟨by (with_reducible repeat (first | refine blk_drewN ?_ _ | refine blk_drew ?_ | refine blk_alloc ?_ _)); exact BK219.out⟩, ⟨by repeat (first | (with_reducible first | exact HB.out | apply below_alloc | apply pw_below_drewN | apply below_drew1 | refine below_set ?_ GE196.out | refine below_set ?_ GE197.out | refine below_set ?_ GE219.out) | exact HB.out)⟩⟩
                case rest => as_aux_lemma =>
                  clear HC57
                  try clear c1
                  try clear c2
                  try clear p2
                  try clear q2
                  try clear hx2
                  try clear c3
                  try clear c4
                  try clear c5
                  try clear c6
                  try clear p6
                  try clear c8
                  try clear c10
                  try clear c12
                  try clear c13
                  try clear c22
                  try clear p22
                  try clear q22
                  try clear hx22
                  try clear c23
                  try clear c26
                  try clear c27
                  try clear c28
                  try clear c31
                  try clear c31b0
                  try clear c31b1
                  try clear c32
                  try clear c32b0
                  try clear c32b1
                  try clear c33
                  try clear c34
                  try clear c34b0
                  try clear c34b1
                  try clear c35
                  try clear c36
                  try clear c38
                  try clear c39
                  try clear c41
                  try clear c42
                  try clear c42b0
                  try clear c43
                  try clear c43b0
                  try clear c44
                  try clear c44b0
                  try clear c45
                  try clear c45b0
                  try clear c46
                  try clear c46b0
                  try clear c50
                  try clear c53
                  try clear c60
                  try clear hcz29_0
                  try clear hcz29_1
                  try clear hcz29_2
                  try clear hcz29_3
                  try clear hcz29_4
                  try clear hcz37_0
                  try clear hcz37_1
                  try clear hcz37_2
                  try clear hcz37_3
                  try clear hcz37_4
                  try clear hcz40_0
                  try clear hcz40_1
                  try clear hcz40_2
                  try clear hcz40_3
                  try clear hcz40_4
                  try clear hfz29_0
                  try clear hfz29_1
                  try clear hfz29_2
                  try clear hfz29_3
                  try clear hfz29_4
                  try clear hfz37_0
                  try clear hfz37_1
                  try clear hfz37_2
                  try clear hfz37_3
                  try clear hfz37_4
                  try clear hfz40_0
                  try clear hfz40_1
                  try clear hfz40_2
                  try clear hfz40_3
                  try clear hfz40_4
                  try clear hx220_0
                  try clear hx221_0
                  try clear hx222_0
                  try clear p2
                  try clear p220
                  try clear p221
                  try clear p222
                  try clear p6
                  try clear q220
                  try clear q221
                  try clear q222
                  obtain ⟨kq, x127_56, rfl, HA, HJ56, HO_14, HO_15, HO_22, HO_220004, BK196, BK197, BK219, HB⟩ := hcut
                  cases kq with
                  | zero => exact absurd HA.out (by simp [airchecklaw36_FingerprintBounds.j3])
                  | succ kj56 =>
                    have H := HA.out
                    clear HA
                    simp only [airchecklaw36_FingerprintBounds.j3] at H
                    by_cases c61 : x127_56 = true
                    · subst c61
                      have H1 : (some false) = some r := by rw [if_pos rfl] at H; exact H
                      exact absurd (Option.some.inj H1) (by rw [hr0.out]; exact Bool.false_ne_true)
                    · replace c61 := Bool.eq_false_iff.mpr c61
                      subst c61
                      have H1 : ((stop_airchecklaw36_FingerprintBounds t199 t202 t209 x22_2 a4_0 a4_1 a4_2 a5_0 a5_1 a5_2 a5_3 l5_4)) = some r := by rw [if_neg (show ¬ (false = true) by decide)] at H; exact H
                      clear H
                      have H := H1
                      clear H1
                      obtain ⟨i, j, b1, b2, o, ck, e1, hi, e2, hj, e3, e4, e5, hcond, er⟩ := stop_bounds_inv H
                      subst er
                      obtain ⟨row, hrow⟩ : ∃ row, row = x22_2.getD i.toNat [] := ⟨_, rfl⟩
                      rw [← hrow] at e2 hj e3
                      obtain ⟨row', hrow'⟩ : ∃ row', row' = row.set j.toNat a4_2 := ⟨_, rfl⟩
                      rw [← hrow'] at e3
                      obtain ⟨less', hless'⟩ : ∃ less', less' = x22_2.set i.toNat row' := ⟨_, rfl⟩
                      rw [← hless'] at e3
                      have E1 := Aside0.mk e1
                      have E2 := Aside0.mk e2
                      have E3 := Aside0.mk e3
                      have E4 := Aside0.mk e4
                      have E5 := Aside0.mk e5
                      have HI := Aside0.mk hi
                      have HJ := Aside0.mk hj
                      have HC := Aside0.mk hcond
                      have HROW := Aside0.mk hrow
                      have HROW' := Aside0.mk hrow'
                      have HLESS := Aside0.mk hless'
                      clear H e1 e2 e3 e4 e5 hi hj hcond hrow hrow' hless' HO_220004 BK219
                      obtain ⟨g22, cap22, ev, _, _, _⟩ := Kd.R_form (Kd.S_R HO_22.out) (by have := HI.out; omega)
                      injection ev with ev1 ev2 ev3
                      subst ev1 ev3
                      have x0 : wc.cell? ⟨gb196, 0, none⟩ = some (.int .i64 a4_0) := (blk_cell BK196.out 0).trans rfl
                      go_wp2_with fail
                      refine (airchecklaw36_pick.calls a4_0 _ i _ E1.out).mono ?_
                      rintro e v1 ⟨rfl, hd1⟩
                      have hb1 := hd1.below
                      have HH1 := Aside0.mk (Kd.R_below HO_14.out hb1)
                      have HC1_ := Aside0.mk (Kd.R_below HO_15.out hb1)
                      have HS1 := Aside0.mk (Kd.S_below HO_22.out hb1)
                      have HA1 := Aside0.mk (blk_below BK196.out hb1)
                      have HM1 := Aside0.mk (blk_below BK197.out hb1)
                      have HB1 := Aside0.mk (below_step HB.out hb1)
                      clear hb1 hd1 x0 HO_14 HO_15 HO_22 BK196 BK197 HB
                      obtain ⟨oki, ce, hcl, hM, hcc, hoki, hback⟩ := Kd.S_borrow HS1.out ([] : List Int) i HI.out.1 HI.out.2
                      rw [← HROW.out] at hM
                      obtain ⟨vr, rfl, hR⟩ := hM
                      have hvr0 := hcc 0 _ rfl
                      rw [add_at, show 0 + (i.toNat * (Kd.slice 3 (Kd.int .i64)).sz + 0) = i.toNat from by show 0 + (i.toNat * 1 + 0) = _; omega] at hvr0
                      obtain ⟨gr, cr, eqv, _, _, _⟩ := Kd.R_form hR (by have := HJ.out; omega)
                      subst eqv
                      have hi1 := HI.out.1
                      have hi2 := HI.out.2
                      have hj1 := HJ.out.1
                      have hj2 := HJ.out.2
                      have HVR := Aside0.mk hvr0
                      clear hcc hoki hback hR hcl
                      go_wp2_with fail
                      have hx1 : v1.cell? ⟨gb196, 1, none⟩ = some (.int .i64 a4_1) := (blk_cell HA1.out 1).trans rfl
                      have hx2 : v1.cell? ⟨gb196, 2, none⟩ = some (.int .i64 a4_2) := (blk_cell HA1.out 2).trans rfl
                      clear hvr0
                      go_region_held3 (fun W => W.cell? ⟨gb196, 1, none⟩ = some (.int .i64 a4_1) ∧ W.cell? ⟨gb196, 2, none⟩ = some (.int .i64 a4_2)) (first | assumption | exact ⟨hx1, hx2⟩ | exact ⟨hz1, hz2⟩) (first | (go_at_call 33; refine (airchecklaw36_pick.calls a4_1 _ j _ E2.out).mono ?_; rintro e v2 ⟨rfl, hd2⟩; have hv2 : Below v1.heap.size v1 v2 := below_step (by first | exact Below.refl _ _ | exact below_drew (Below.refl _ _)) hd2.below; have hs2 := bnd_both (g := gb196) (x := a4_1) (y := a4_2) (by assumption) hd2.below; obtain ⟨⟨hc2, hf2⟩, hp2, hg2, hok2, hty2⟩ := bnd_put (Kd.S_below HS1.out hv2) (i := i.toNat) (j := j.toNat) (by omega) (by rw [← HROW.out]; exact pw_cell_below hv2 HVR.out) (by rw [← HROW.out]; omega) a4_2; obtain ⟨cells2, hty2⟩ := hty2; have hA2 := blk_far (blk_below HA1.out hv2) (p := ⟨gr, j.toNat, none⟩) (blk_ne (blk_below HA1.out hv2) hty2 (by decide)) (.int .i64 a4_2); have hz1 : (v2.setCell ⟨gr, j.toNat, none⟩ (.int .i64 a4_2)).cell? ⟨gb196, 1, none⟩ = some (.int .i64 a4_1) := (blk_cell hA2 1).trans rfl; have hz2 : (v2.setCell ⟨gr, j.toNat, none⟩ (.int .i64 a4_2)).cell? ⟨gb196, 2, none⟩ = some (.int .i64 a4_2) := (blk_cell hA2 2).trans rfl; have HP2 := Aside0.mk hp2; have HG2 := Aside0.mk hg2; have HOK2 := Aside0.mk hok2; have HTY2 := Aside0.mk hty2; have HV2 := Aside0.mk hv2; clear hp2 hg2 hok2 hty2 hd2 hA2 hv2))
                      have hlen : x22_2.length = less'.length := by rw [HLESS.out, List.length_set]
                      obtain ⟨hp, hg⟩ := HP2.out
                      rw [← HROW.out, ← HROW'.out, ← HLESS.out] at hp
                      obtain ⟨ok1, ok2, ok3⟩ := HOK2.out
                      have hh3 := Kd.R_grown1 (Kd.R_below HH1.out HV2.out) rfl hg ok1
                      have hc3 := Kd.R_grown1 (Kd.R_below HC1_.out HV2.out) rfl hg ok2
                      have hm3 := blk_far (blk_below HM1.out HV2.out) (p := ⟨gr, j.toNat, none⟩) (blk_ne (blk_below HM1.out HV2.out) HTY2.out (by decide)) (.int .i64 a4_2)
                      have hb3 := (below_step HB1.out HV2.out).setCell (p := ⟨gr, j.toNat, none⟩) HG2.out (.int .i64 a4_2)
                      obtain ⟨v3, hv3⟩ : ∃ v3, v2.setCell ⟨gr, j.toNat, none⟩ (.int .i64 a4_2) = v3 := ⟨_, rfl⟩
                      rw [hv3] at hp hh3 hc3 hm3 hb3 ⊢
                      rw [hlen] at hp ⊢
                      have HS3 := Aside0.mk hp
                      have HH3 := Aside0.mk hh3
                      have HC3 := Aside0.mk hc3
                      have HM3 := Aside0.mk hm3
                      have HB3 := Aside0.mk hb3
                      clear hp hg ok1 ok2 ok3 hh3 hc3 hm3 hb3 hv3 hlen HP2 HOK2 HTY2 HG2 HV2 HH1 HC1_ HM1 HB1 HS1 HA1 HVR HROW HROW' HLESS hx1 hx2 hc2 hf2 hi1 hi2 hj1 hj2 E1 E2
                      go_wp2_with fail
                      refine (fingerprint_Bound.calls 100000 Ao20 co20 t199 Ao21 co21 t202 (some ⟨g22, 0, none⟩) co58 less' b1 b2 _ (Kd.R_reads' HH3.out).2.2 (Kd.R_reads' HH3.out).2.1 (Kd.R_reads' HC3.out).2.2 (Kd.R_reads' HC3.out).2.1 (Kd.S_reads' HS3.out).2.2 (Kd.S_reads' HS3.out).2.1 E3.out).mono ?_
                      rintro e v4 ⟨rfl, hb4⟩
                      have HH4 := Aside0.mk (Kd.R_below HH3.out hb4)
                      have HC4 := Aside0.mk (Kd.R_below HC3.out hb4)
                      have HM4 := Aside0.mk (blk_below HM3.out hb4)
                      have HB4 := Aside0.mk (below_step HB3.out hb4)
                      clear hb4 HH3 HC3 HM3 HB3 HS3 E3
                      have hcc := HC.out
                      cases b2 with
                      | true =>
                        have t1 : decide (b1 > t209) = false := decide_eq_false (by have := hcc.1 rfl; omega)
                        have t1' : decide (t209 < b1) = false := decide_eq_false (by have := hcc.1 rfl; omega)
                        clear hcc
                        have x4 : v4.cell? ⟨gb197, 4, none⟩ = some (.slice A5_4 l5_4.length c5_4) := (blk_cell HM4.out 4).trans rfl
                        have z4 := blk_frozen HM4.out 4
                        go_wp2_with fail
                        refine (airchecklaw36_few.calls (fun k_ => k_ < w.heap.size) A5_4 c5_4 l5_4 40 o _ (Kd.V_mk HC5_4.out (Kd.F_below (Kd.C_F (Kd.heap_int .i64) HR5_4.out) HB4.out)) E4.out).mono ?_
                        rintro e v5 ⟨vo, rfl, hvo, hb5⟩
                        obtain ⟨Aq, cq, rfl⟩ := Kd.V_slice hvo
                        have hm5 := blk_below HM4.out hb5
                        have HVO := Aside0.mk (Kd.V_far hvo (p := ⟨gb197, 4, none⟩) (fun k hk => by have := GE197.out; have := blk_lt HM4.out; show k ≠ gb197; omega) (.slice Aq o.length cq))
                        have hm6 := blk_set hm5 4 (.slice Aq o.length cq)
                        have HH5 := Aside0.mk (Kd.R_set (Kd.R_below HH4.out hb5) hm5 (by decide) 4 (.slice Aq o.length cq))
                        have HC5 := Aside0.mk (Kd.R_set (Kd.R_below HC4.out hb5) hm5 (by decide) 4 (.slice Aq o.length cq))
                        have HB5 := Aside0.mk ((below_step HB4.out hb5).setCell (p := ⟨gb197, 4, none⟩) GE197.out (.slice Aq o.length cq))
                        have x5 : v5.cell? ⟨gb197, 4, none⟩ = some (.slice A5_4 l5_4.length c5_4) := (blk_cell hm5 4).trans rfl
                        have z5 := blk_frozen hm5 4
                        have y0 : (v5.setCell ⟨gb197, 4, none⟩ (.slice Aq o.length cq)).cell? ⟨gb197, 0, none⟩ = some (.int .i64 a5_0) := (blk_cell hm6 0).trans rfl
                        have y1 : (v5.setCell ⟨gb197, 4, none⟩ (.slice Aq o.length cq)).cell? ⟨gb197, 1, none⟩ = some (.int .i64 a5_1) := (blk_cell hm6 1).trans rfl
                        have y2 : (v5.setCell ⟨gb197, 4, none⟩ (.slice Aq o.length cq)).cell? ⟨gb197, 2, none⟩ = some (.int .i64 a5_2) := (blk_cell hm6 2).trans rfl
                        have y3 : (v5.setCell ⟨gb197, 4, none⟩ (.slice Aq o.length cq)).cell? ⟨gb197, 3, none⟩ = some (.int .i64 a5_3) := (blk_cell hm6 3).trans rfl
                        have y4 : (v5.setCell ⟨gb197, 4, none⟩ (.slice Aq o.length cq)).cell? ⟨gb197, 4, none⟩ = some (.slice Aq o.length cq) := (blk_cell hm6 4).trans rfl
                        clear hvo hb5 hm5 hm6 x4 z4 HH4 HC4 HM4 HB4 E4
                        go_wp2_with fail
                        refine (fingerprint_Check.calls 100000 _ Ao20 co20 t199 _ Ao21 co21 t202 a5_0 a5_1 a5_2 a5_3 Aq cq o ck _ (Kd.V_mk (Kd.R_reads' HH5.out).2.1 (Kd.C_F (Kd.heap_int .i64) (Kd.R_reads' HH5.out).2.2)) (Kd.V_mk (Kd.R_reads' HC5.out).2.1 (Kd.C_F (Kd.heap_int .i64) (Kd.R_reads' HC5.out).2.2)) (Kd.V_reads' HVO.out).2.2 (Kd.V_reads' HVO.out).2.1 E5.out).mono ?_
                        rintro e v7 ⟨rfl, hb7⟩
                        have x3 := pw_cell_below hb7 y3
                        have HB7 := Aside0.mk (below_step HB5.out hb7)
                        clear hb7 y0 y1 y2 y3 y4 x5 z5 HB5 HH5 HC5 HVO E5
                        have hcc := HC.out
                        cases ck with
                        | true =>
                          have g1 : decide (t209 ≤ a5_3) = true := decide_eq_true (hcc.2 rfl).1
                          have g1' : t209 ≤ a5_3 := (hcc.2 rfl).1
                          have g2 : decide (b1 ≤ a5_3) = true := decide_eq_true ((hcc.2 rfl).2 (by trivial))
                          have g2' : b1 ≤ a5_3 := (hcc.2 rfl).2 (by trivial)
                          clear hcc HC
                          go_wp2
                          go_ret
                          exact ⟨rfl, HB7.out⟩
                        | false =>
                          clear hcc HC
                          go_wp2
                          go_ret
                          exact ⟨rfl, HB7.out⟩
                      | false =>
                        clear hcc
                        have x4 : v4.cell? ⟨gb197, 4, none⟩ = some (.slice A5_4 l5_4.length c5_4) := (blk_cell HM4.out 4).trans rfl
                        have z4 := blk_frozen HM4.out 4
                        go_wp2_with fail
                        refine (airchecklaw36_few.calls (fun k_ => k_ < w.heap.size) A5_4 c5_4 l5_4 40 o _ (Kd.V_mk HC5_4.out (Kd.F_below (Kd.C_F (Kd.heap_int .i64) HR5_4.out) HB4.out)) E4.out).mono ?_
                        rintro e v5 ⟨vo, rfl, hvo, hb5⟩
                        obtain ⟨Aq, cq, rfl⟩ := Kd.V_slice hvo
                        have hm5 := blk_below HM4.out hb5
                        have HVO := Aside0.mk (Kd.V_far hvo (p := ⟨gb197, 4, none⟩) (fun k hk => by have := GE197.out; have := blk_lt HM4.out; show k ≠ gb197; omega) (.slice Aq o.length cq))
                        have hm6 := blk_set hm5 4 (.slice Aq o.length cq)
                        have HH5 := Aside0.mk (Kd.R_set (Kd.R_below HH4.out hb5) hm5 (by decide) 4 (.slice Aq o.length cq))
                        have HC5 := Aside0.mk (Kd.R_set (Kd.R_below HC4.out hb5) hm5 (by decide) 4 (.slice Aq o.length cq))
                        have HB5 := Aside0.mk ((below_step HB4.out hb5).setCell (p := ⟨gb197, 4, none⟩) GE197.out (.slice Aq o.length cq))
                        have x5 : v5.cell? ⟨gb197, 4, none⟩ = some (.slice A5_4 l5_4.length c5_4) := (blk_cell hm5 4).trans rfl
                        have z5 := blk_frozen hm5 4
                        have y0 : (v5.setCell ⟨gb197, 4, none⟩ (.slice Aq o.length cq)).cell? ⟨gb197, 0, none⟩ = some (.int .i64 a5_0) := (blk_cell hm6 0).trans rfl
                        have y1 : (v5.setCell ⟨gb197, 4, none⟩ (.slice Aq o.length cq)).cell? ⟨gb197, 1, none⟩ = some (.int .i64 a5_1) := (blk_cell hm6 1).trans rfl
                        have y2 : (v5.setCell ⟨gb197, 4, none⟩ (.slice Aq o.length cq)).cell? ⟨gb197, 2, none⟩ = some (.int .i64 a5_2) := (blk_cell hm6 2).trans rfl
                        have y3 : (v5.setCell ⟨gb197, 4, none⟩ (.slice Aq o.length cq)).cell? ⟨gb197, 3, none⟩ = some (.int .i64 a5_3) := (blk_cell hm6 3).trans rfl
                        have y4 : (v5.setCell ⟨gb197, 4, none⟩ (.slice Aq o.length cq)).cell? ⟨gb197, 4, none⟩ = some (.slice Aq o.length cq) := (blk_cell hm6 4).trans rfl
                        clear hvo hb5 hm5 hm6 x4 z4 HH4 HC4 HM4 HB4 E4
                        go_wp2_with fail
                        refine (fingerprint_Check.calls 100000 _ Ao20 co20 t199 _ Ao21 co21 t202 a5_0 a5_1 a5_2 a5_3 Aq cq o ck _ (Kd.V_mk (Kd.R_reads' HH5.out).2.1 (Kd.C_F (Kd.heap_int .i64) (Kd.R_reads' HH5.out).2.2)) (Kd.V_mk (Kd.R_reads' HC5.out).2.1 (Kd.C_F (Kd.heap_int .i64) (Kd.R_reads' HC5.out).2.2)) (Kd.V_reads' HVO.out).2.2 (Kd.V_reads' HVO.out).2.1 E5.out).mono ?_
                        rintro e v7 ⟨rfl, hb7⟩
                        have x3 := pw_cell_below hb7 y3
                        have HB7 := Aside0.mk (below_step HB5.out hb7)
                        clear hb7 y0 y1 y2 y3 y4 x5 z5 HB5 HH5 HC5 HVO E5
                        have hcc := HC.out
                        cases ck with
                        | true =>
                          have g1 : decide (t209 ≤ a5_3) = true := decide_eq_true (hcc.2 rfl).1
                          have g1' : t209 ≤ a5_3 := (hcc.2 rfl).1
                          clear hcc HC
                          go_wp2
                          go_ret
                          exact ⟨rfl, HB7.out⟩
                        | false =>
                          clear hcc HC
                          go_wp2
                          go_ret
                          exact ⟨rfl, HB7.out⟩
  · replace c8 := Bool.eq_false_iff.mpr c8
    subst c8
    have H1 : (some false) = some r := by rw [if_neg (show ¬ (false = true) by decide)] at H; exact H
    exact absurd (Option.some.inj H1) (by rw [hr0.out]; exact Bool.false_ne_true)
/-- THE ONE PURE STATEMENT of airchecklaw36_FingerprintBounds. -/
def airchecklaw36_FingerprintBounds.Pure : Prop := ∀ (l0 : List Int) (l1 : List Int) (a2 : Int) (a3 : Int) (a4_0 : Int) (a4_1 : Int) (a4_2 : Int) (a5_0 : Int) (a5_1 : Int) (a5_2 : Int) (a5_3 : Int) (l5_4 : List Int), (l0.length ≤ maxLen ∧ l0.length * 8 ≤ 140737488351232 ∧ ∀ x ∈ l0, (fun x => (Lit.int .i64 x).wf = true) x) → (l1.length ≤ maxLen ∧ l1.length * 8 ≤ 140737488351232 ∧ ∀ x ∈ l1, (fun x => (Lit.int .i64 x).wf = true) x) → (Lit.int .i64 a2).wf = true → (Lit.int .i64 a3).wf = true → Q29 (⟨a4_0, a4_1, a4_2⟩ : S29) → Q25 (⟨a5_0, a5_1, a5_2, a5_3, l5_4⟩ : S25) → ∃ k, airchecklaw36_FingerprintBounds.f k l0 l1 a2 a3 a4_0 a4_1 a4_2 a5_0 a5_1 a5_2 a5_3 l5_4 = some true
theorem airchecklaw36_FingerprintBounds.walk : True := trivial

end Go.Proofs.Ytgaepndbfpfniaa.PFB
