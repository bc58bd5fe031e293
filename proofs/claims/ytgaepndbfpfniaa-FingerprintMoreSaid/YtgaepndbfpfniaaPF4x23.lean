-- PRINTED by print.py (a twelfth state) out of the translation. Not trusted: Lean checks it.
import Derived.Test.YtgaepndbfpfniaaPF4x0
import Derived.Test.YtgaepndbfpfniaaPF4x7
import Derived.Test.YtgaepndbfpfniaaPF4x20
import Derived.Test.YtgaepndbfpfniaaPF4x21
namespace Go.Proofs.Ytgaepndbfpfniaa.PF4
open Go.RowKit Go.Proofs.YtgaepndbfpfniaaW.PrintWords Go.Proofs.YtgaepndbfpfniaaW.PrintLast Go.Proofs.YtgaepndbfpfniaaW.PrintMore
attribute [local go_sem] max2_int min2_int max_two min_two max_three min_three max_four min_four   -- for this text's walks alone
set_option linter.unusedVariables false
set_option linter.unusedSimpArgs false

/-! ### airchecklaw36_FingerprintParts: function 8 -/
mutual
def airchecklaw36_FingerprintParts.l0 : Nat → List Int → List Int → Int → Int → Int → Int → Int → Int → Int → List Int → Int → Option (Bool)
  | 0, _, _, _, _, _, _, _, _, _, _, _ => none
  | k + 1, x12, x13, x15, x16, x17, x18, x19, x20, x21, x22, x24 => if x24 < (x12.length : Int) then (if 0 ≤ (wrap64 ((wrap64 ((x12.length : Int) - 1)) - x24)) then (if (wrap64 ((wrap64 ((x12.length : Int) - 1)) - x24)) < (x12.length : Int) then (if x22.length < 17592186044416 then ((some (x22 ++ [rd x12 (wrap64 ((wrap64 ((x12.length : Int) - 1)) - x24))] : List Int)).bind fun y315 => (if 0 ≤ x24 then (if (rd x12 x24) = (-1) then (airchecklaw36_FingerprintParts.l0 k x12 x13 x15 x16 x17 x18 x19 x20 (wrap64 (x21 + 1)) y315 (wrap64 (x24 + 1))) else (airchecklaw36_FingerprintParts.l0 k x12 x13 x15 x16 x17 x18 x19 x20 x21 y315 (wrap64 (x24 + 1)))) else (none))) else (none)) else (none)) else (none)) else (airchecklaw36_FingerprintParts.l1 k x12 x13 x15 x16 x17 x18 x19 x20 x21 x22 ([] : List Int) 0)
def airchecklaw36_FingerprintParts.l1 : Nat → List Int → List Int → Int → Int → Int → Int → Int → Int → Int → List Int → List Int → Int → Option (Bool)
  | 0, _, _, _, _, _, _, _, _, _, _, _, _ => none
  | k + 1, x12, x13, x15, x16, x17, x18, x19, x20, x21, x22, x23, x25 => if x25 < (x13.length : Int) then (if 0 ≤ (wrap64 ((wrap64 ((x13.length : Int) - 1)) - x25)) then (if (wrap64 ((wrap64 ((x13.length : Int) - 1)) - x25)) < (x13.length : Int) then (if x23.length < 17592186044416 then (airchecklaw36_FingerprintParts.l1 k x12 x13 x15 x16 x17 x18 x19 x20 x21 x22 (x23 ++ [rd x13 (wrap64 ((wrap64 ((x13.length : Int) - 1)) - x25))]) (wrap64 (x25 + 1))) else (none)) else (none)) else (none)) else ((fingerprint_Cost.f k x22 x23).bind fun bt323 => (if x16 = 0 then (if x18 = 0 then (if x20 = 0 then (if bt323.2 = 0 then (if x15 = 0 then (if x19 ≥ x17 then (if x19 ≤ (wrap64 (x17 + 1)) then (if x17 ≥ x21 then (if x17 ≤ (x12.length : Int) then (some (bt323.1 == x17)) else (some false)) else (some false)) else (some false)) else (some false)) else (some false)) else (some false)) else (some false)) else (some false)) else (some false)))
end
def airchecklaw36_FingerprintParts.f (k : Nat) (l0 : List Int) (l1 : List Int) (a2 : Int) (a3 : Int) (a4 : Int) : Option (Bool) := (airchecklaw36_sane.f).bind fun t285 => (if t285 = true then ((aircheckref36_Codes2.f k l0).bind fun t286 => ((aircheckref36_Codes.f k l1).bind fun t289 => ((airchecklaw36_pick.f a2 (wrap64 ((t289.length : Int) + 1))).bind fun t292 => ((airchecklaw36_pick.f a3 (wrap64 ((wrap64 ((t289.length : Int) + 1)) - t292))).bind fun t293 => (if 0 ≤ t292 then (if t292 ≤ (wrap64 (t292 + t293)) then (if (wrap64 (t292 + t293)) ≤ (t289.length : Int) then ((fingerprint_Cost.f k ((t289.take ((wrap64 (t292 + t293)) : Int).toNat).drop (t292 : Int).toNat) t289).bind fun bt298 => ((fingerprint_Cost.f k t286 t289).bind fun bt300 => ((some (([] : List Int) : List Int)).bind fun y302 => (if y302.length + t286.length < 17592186044416 then ((some (y302 ++ t286 : List Int)).bind fun y305 => ((airchecklaw36_pick.f a4 257).bind fun t308 => (if y305.length < 17592186044416 then ((fingerprint_Cost.f k (y305 ++ [wrap64 (t308 - 1)]) t289).bind fun bt312 => (airchecklaw36_FingerprintParts.l0 k t286 t289 bt298.1 bt298.2 bt300.1 bt300.2 bt312.1 bt312.2 0 ([] : List Int) 0)) else (none)))) else (none))))) else (none)) else (none)) else (none)))))) else (some false))
theorem airchecklaw36_FingerprintParts.mono_l : ∀ k, (∀ y0 y1 y2 y3 y4 y5 y6 y7 y8 y9 y10, LeO (airchecklaw36_FingerprintParts.l0 k y0 y1 y2 y3 y4 y5 y6 y7 y8 y9 y10) (airchecklaw36_FingerprintParts.l0 (k + 1) y0 y1 y2 y3 y4 y5 y6 y7 y8 y9 y10)) ∧ (∀ y0 y1 y2 y3 y4 y5 y6 y7 y8 y9 y10 y11, LeO (airchecklaw36_FingerprintParts.l1 k y0 y1 y2 y3 y4 y5 y6 y7 y8 y9 y10 y11) (airchecklaw36_FingerprintParts.l1 (k + 1) y0 y1 y2 y3 y4 y5 y6 y7 y8 y9 y10 y11))
  | 0 => ⟨fun _ _ _ _ _ _ _ _ _ _ _ r h => by simp [airchecklaw36_FingerprintParts.l0] at h, fun _ _ _ _ _ _ _ _ _ _ _ _ r h => by simp [airchecklaw36_FingerprintParts.l1] at h⟩
  | k + 1 => by
    obtain ⟨ih0, ih1⟩ := airchecklaw36_FingerprintParts.mono_l k
    refine ⟨?_, ?_⟩
    · intro y0 y1 y2 y3 y4 y5 y6 y7 y8 y9 y10
      unfold airchecklaw36_FingerprintParts.l0
      repeat' first
      | (with_reducible exact ih0 _ _ _ _ _ _ _ _ _ _ _)
      | (with_reducible exact ih1 _ _ _ _ _ _ _ _ _ _ _ _)
      | (with_reducible exact aircheckref36_Codes.mono _ _)
      | (with_reducible exact aircheckref36_Codes2.mono _ _)
      | (with_reducible exact fingerprint_Cost.mono _ _ _)
      | (with_reducible exact LeO.refl _)
      | (with_reducible exact LeO.none _)
      | (with_reducible refine LeO.ite ?_ ?_)
      | (with_reducible refine LeO.bind ?_ (fun _ => ?_))
      | exact ih0 _ _ _ _ _ _ _ _ _ _ _
      | exact ih1 _ _ _ _ _ _ _ _ _ _ _ _
      | exact aircheckref36_Codes.mono _ _
      | exact aircheckref36_Codes2.mono _ _
      | exact fingerprint_Cost.mono _ _ _
      | exact LeO.none _
      | refine LeO.ite ?_ ?_
      | refine LeO.bind ?_ (fun _ => ?_)
    · intro y0 y1 y2 y3 y4 y5 y6 y7 y8 y9 y10 y11
      unfold airchecklaw36_FingerprintParts.l1
      repeat' first
      | (with_reducible exact ih0 _ _ _ _ _ _ _ _ _ _ _)
      | (with_reducible exact ih1 _ _ _ _ _ _ _ _ _ _ _ _)
      | (with_reducible exact aircheckref36_Codes.mono _ _)
      | (with_reducible exact aircheckref36_Codes2.mono _ _)
      | (with_reducible exact fingerprint_Cost.mono _ _ _)
      | (with_reducible exact LeO.refl _)
      | (with_reducible exact LeO.none _)
      | (with_reducible refine LeO.ite ?_ ?_)
      | (with_reducible refine LeO.bind ?_ (fun _ => ?_))
      | exact ih0 _ _ _ _ _ _ _ _ _ _ _
      | exact ih1 _ _ _ _ _ _ _ _ _ _ _ _
      | exact aircheckref36_Codes.mono _ _
      | exact aircheckref36_Codes2.mono _ _
      | exact fingerprint_Cost.mono _ _ _
      | exact LeO.none _
      | refine LeO.ite ?_ ?_
      | refine LeO.bind ?_ (fun _ => ?_)
theorem airchecklaw36_FingerprintParts.mono : ∀ a0 a1 a2 a3 a4 k, LeO (airchecklaw36_FingerprintParts.f k a0 a1 a2 a3 a4) (airchecklaw36_FingerprintParts.f (k + 1) a0 a1 a2 a3 a4) := by
  intro a0 a1 a2 a3 a4 k
  obtain ⟨ih0, ih1⟩ := airchecklaw36_FingerprintParts.mono_l k
  unfold airchecklaw36_FingerprintParts.f
  repeat' first
      | (with_reducible exact ih0 _ _ _ _ _ _ _ _ _ _ _)
      | (with_reducible exact ih1 _ _ _ _ _ _ _ _ _ _ _ _)
      | (with_reducible exact aircheckref36_Codes.mono _ _)
      | (with_reducible exact aircheckref36_Codes2.mono _ _)
      | (with_reducible exact fingerprint_Cost.mono _ _ _)
      | (with_reducible exact LeO.refl _)
      | (with_reducible exact LeO.none _)
      | (with_reducible refine LeO.ite ?_ ?_)
      | (with_reducible refine LeO.bind ?_ (fun _ => ?_))
      | exact ih0 _ _ _ _ _ _ _ _ _ _ _
      | exact ih1 _ _ _ _ _ _ _ _ _ _ _ _
      | exact aircheckref36_Codes.mono _ _
      | exact aircheckref36_Codes2.mono _ _
      | exact fingerprint_Cost.mono _ _ _
      | exact LeO.none _
      | refine LeO.ite ?_ ?_
      | refine LeO.bind ?_ (fun _ => ?_)
set_option maxHeartbeats 8000000 in
set_option maxRecDepth 100000 in
theorem airchecklaw36_FingerprintParts.calls (k : Nat) (A0 : Option Addr) (c0 : Nat) (l0 : List Int) (A1 : Option Addr) (c1 : Nat) (l1 : List Int) (a2 : Int) (a3 : Int) (a4 : Int) (r : Bool) (hr0 : Aside0 (r = true)) (w : World) (hr0 : Kd.C (Kd.int .i64) w A0 l0.length l0) (hc0 : l0.length ≤ c0) (hr1 : Kd.C (Kd.int .i64) w A1 l1.length l1) (hc1 : l1.length ≤ c1) (h : airchecklaw36_FingerprintParts.f k l0 l1 a2 a3 a4 = some r) :
    Calls Try.prog 8 #[.slice A0 l0.length c0, .slice A1 l1.length c1, .int .i64 a2, .int .i64 a3, .int .i64 a4] w fun e w' => e = .returned (.bool r) ∧ Below w.heap.size w w' := by
  have HR0 := Aside0.mk hr0
  have HC0 := Aside0.mk hc0
  clear hr0 hc0
  have HR1 := Aside0.mk hr1
  have HC1 := Aside0.mk hc1
  clear hr1 hc1
  have HB := Aside0.mk (Below.refl w.heap.size w)
  have H : ((airchecklaw36_sane.f).bind fun t285 => (if t285 = true then ((aircheckref36_Codes2.f k l0).bind fun t286 => ((aircheckref36_Codes.f k l1).bind fun t289 => ((airchecklaw36_pick.f a2 (wrap64 ((t289.length : Int) + 1))).bind fun t292 => ((airchecklaw36_pick.f a3 (wrap64 ((wrap64 ((t289.length : Int) + 1)) - t292))).bind fun t293 => (if 0 ≤ t292 then (if t292 ≤ (wrap64 (t292 + t293)) then (if (wrap64 (t292 + t293)) ≤ (t289.length : Int) then ((fingerprint_Cost.f k ((t289.take ((wrap64 (t292 + t293)) : Int).toNat).drop (t292 : Int).toNat) t289).bind fun bt298 => ((fingerprint_Cost.f k t286 t289).bind fun bt300 => ((some (([] : List Int) : List Int)).bind fun y302 => (if y302.length + t286.length < 17592186044416 then ((some (y302 ++ t286 : List Int)).bind fun y305 => ((airchecklaw36_pick.f a4 257).bind fun t308 => (if y305.length < 17592186044416 then ((fingerprint_Cost.f k (y305 ++ [wrap64 (t308 - 1)]) t289).bind fun bt312 => (airchecklaw36_FingerprintParts.l0 k t286 t289 bt298.1 bt298.2 bt300.1 bt300.2 bt312.1 bt312.2 0 ([] : List Int) 0)) else (none)))) else (none))))) else (none)) else (none)) else (none)))))) else (some false))) = some r := h
  clear h
  replace H := Option.bind_eq_some_iff.mp H
  obtain ⟨t285, A60, H⟩ := H
  replace H : (if t285 = true then ((aircheckref36_Codes2.f k l0).bind fun t286 => ((aircheckref36_Codes.f k l1).bind fun t289 => ((airchecklaw36_pick.f a2 (wrap64 ((t289.length : Int) + 1))).bind fun t292 => ((airchecklaw36_pick.f a3 (wrap64 ((wrap64 ((t289.length : Int) + 1)) - t292))).bind fun t293 => (if 0 ≤ t292 then (if t292 ≤ (wrap64 (t292 + t293)) then (if (wrap64 (t292 + t293)) ≤ (t289.length : Int) then ((fingerprint_Cost.f k ((t289.take ((wrap64 (t292 + t293)) : Int).toNat).drop (t292 : Int).toNat) t289).bind fun bt298 => ((fingerprint_Cost.f k t286 t289).bind fun bt300 => ((some (([] : List Int) : List Int)).bind fun y302 => (if y302.length + t286.length < 17592186044416 then ((some (y302 ++ t286 : List Int)).bind fun y305 => ((airchecklaw36_pick.f a4 257).bind fun t308 => (if y305.length < 17592186044416 then ((fingerprint_Cost.f k (y305 ++ [wrap64 (t308 - 1)]) t289).bind fun bt312 => (airchecklaw36_FingerprintParts.l0 k t286 t289 bt298.1 bt298.2 bt300.1 bt300.2 bt312.1 bt312.2 0 ([] : List Int) 0)) else (none)))) else (none))))) else (none)) else (none)) else (none)))))) else (some false)) = some r := H
  have A6 := Aside0.mk A60
  clear A60
  by_cases c7 : t285 = true
  · subst c7
    have H1 : ((aircheckref36_Codes2.f k l0).bind fun t286 => ((aircheckref36_Codes.f k l1).bind fun t289 => ((airchecklaw36_pick.f a2 (wrap64 ((t289.length : Int) + 1))).bind fun t292 => ((airchecklaw36_pick.f a3 (wrap64 ((wrap64 ((t289.length : Int) + 1)) - t292))).bind fun t293 => (if 0 ≤ t292 then (if t292 ≤ (wrap64 (t292 + t293)) then (if (wrap64 (t292 + t293)) ≤ (t289.length : Int) then ((fingerprint_Cost.f k ((t289.take ((wrap64 (t292 + t293)) : Int).toNat).drop (t292 : Int).toNat) t289).bind fun bt298 => ((fingerprint_Cost.f k t286 t289).bind fun bt300 => ((some (([] : List Int) : List Int)).bind fun y302 => (if y302.length + t286.length < 17592186044416 then ((some (y302 ++ t286 : List Int)).bind fun y305 => ((airchecklaw36_pick.f a4 257).bind fun t308 => (if y305.length < 17592186044416 then ((fingerprint_Cost.f k (y305 ++ [wrap64 (t308 - 1)]) t289).bind fun bt312 => (airchecklaw36_FingerprintParts.l0 k t286 t289 bt298.1 bt298.2 bt300.1 bt300.2 bt312.1 bt312.2 0 ([] : List Int) 0)) else (none)))) else (none))))) else (none)) else (none)) else (none)))))) = some r := by rw [if_pos rfl] at H; exact H
    clear H
    have H := H1
    clear H1
    replace H := Option.bind_eq_some_iff.mp H
    obtain ⟨t286, A80, H⟩ := H
    replace H : ((aircheckref36_Codes.f k l1).bind fun t289 => ((airchecklaw36_pick.f a2 (wrap64 ((t289.length : Int) + 1))).bind fun t292 => ((airchecklaw36_pick.f a3 (wrap64 ((wrap64 ((t289.length : Int) + 1)) - t292))).bind fun t293 => (if 0 ≤ t292 then (if t292 ≤ (wrap64 (t292 + t293)) then (if (wrap64 (t292 + t293)) ≤ (t289.length : Int) then ((fingerprint_Cost.f k ((t289.take ((wrap64 (t292 + t293)) : Int).toNat).drop (t292 : Int).toNat) t289).bind fun bt298 => ((fingerprint_Cost.f k t286 t289).bind fun bt300 => ((some (([] : List Int) : List Int)).bind fun y302 => (if y302.length + t286.length < 17592186044416 then ((some (y302 ++ t286 : List Int)).bind fun y305 => ((airchecklaw36_pick.f a4 257).bind fun t308 => (if y305.length < 17592186044416 then ((fingerprint_Cost.f k (y305 ++ [wrap64 (t308 - 1)]) t289).bind fun bt312 => (airchecklaw36_FingerprintParts.l0 k t286 t289 bt298.1 bt298.2 bt300.1 bt300.2 bt312.1 bt312.2 0 ([] : List Int) 0)) else (none)))) else (none))))) else (none)) else (none)) else (none))))) = some r := H
    have A8 := Aside0.mk A80
    clear A80
    replace H := Option.bind_eq_some_iff.mp H
    obtain ⟨t289, A90, H⟩ := H
    replace H : ((airchecklaw36_pick.f a2 (wrap64 ((t289.length : Int) + 1))).bind fun t292 => ((airchecklaw36_pick.f a3 (wrap64 ((wrap64 ((t289.length : Int) + 1)) - t292))).bind fun t293 => (if 0 ≤ t292 then (if t292 ≤ (wrap64 (t292 + t293)) then (if (wrap64 (t292 + t293)) ≤ (t289.length : Int) then ((fingerprint_Cost.f k ((t289.take ((wrap64 (t292 + t293)) : Int).toNat).drop (t292 : Int).toNat) t289).bind fun bt298 => ((fingerprint_Cost.f k t286 t289).bind fun bt300 => ((some (([] : List Int) : List Int)).bind fun y302 => (if y302.length + t286.length < 17592186044416 then ((some (y302 ++ t286 : List Int)).bind fun y305 => ((airchecklaw36_pick.f a4 257).bind fun t308 => (if y305.length < 17592186044416 then ((fingerprint_Cost.f k (y305 ++ [wrap64 (t308 - 1)]) t289).bind fun bt312 => (airchecklaw36_FingerprintParts.l0 k t286 t289 bt298.1 bt298.2 bt300.1 bt300.2 bt312.1 bt312.2 0 ([] : List Int) 0)) else (none)))) else (none))))) else (none)) else (none)) else (none)))) = some r := H
    have A9 := Aside0.mk A90
    clear A90
    replace H := Option.bind_eq_some_iff.mp H
    obtain ⟨t292, A100, H⟩ := H
    replace H : ((airchecklaw36_pick.f a3 (wrap64 ((wrap64 ((t289.length : Int) + 1)) - t292))).bind fun t293 => (if 0 ≤ t292 then (if t292 ≤ (wrap64 (t292 + t293)) then (if (wrap64 (t292 + t293)) ≤ (t289.length : Int) then ((fingerprint_Cost.f k ((t289.take ((wrap64 (t292 + t293)) : Int).toNat).drop (t292 : Int).toNat) t289).bind fun bt298 => ((fingerprint_Cost.f k t286 t289).bind fun bt300 => ((some (([] : List Int) : List Int)).bind fun y302 => (if y302.length + t286.length < 17592186044416 then ((some (y302 ++ t286 : List Int)).bind fun y305 => ((airchecklaw36_pick.f a4 257).bind fun t308 => (if y305.length < 17592186044416 then ((fingerprint_Cost.f k (y305 ++ [wrap64 (t308 - 1)]) t289).bind fun bt312 => (airchecklaw36_FingerprintParts.l0 k t286 t289 bt298.1 bt298.2 bt300.1 bt300.2 bt312.1 bt312.2 0 ([] : List Int) 0)) else (none)))) else (none))))) else (none)) else (none)) else (none))) = some r := H
    have A10 := Aside0.mk A100
    clear A100
    replace H := Option.bind_eq_some_iff.mp H
    obtain ⟨t293, A110, H⟩ := H
    replace H : (if 0 ≤ t292 then (if t292 ≤ (wrap64 (t292 + t293)) then (if (wrap64 (t292 + t293)) ≤ (t289.length : Int) then ((fingerprint_Cost.f k ((t289.take ((wrap64 (t292 + t293)) : Int).toNat).drop (t292 : Int).toNat) t289).bind fun bt298 => ((fingerprint_Cost.f k t286 t289).bind fun bt300 => ((some (([] : List Int) : List Int)).bind fun y302 => (if y302.length + t286.length < 17592186044416 then ((some (y302 ++ t286 : List Int)).bind fun y305 => ((airchecklaw36_pick.f a4 257).bind fun t308 => (if y305.length < 17592186044416 then ((fingerprint_Cost.f k (y305 ++ [wrap64 (t308 - 1)]) t289).bind fun bt312 => (airchecklaw36_FingerprintParts.l0 k t286 t289 bt298.1 bt298.2 bt300.1 bt300.2 bt312.1 bt312.2 0 ([] : List Int) 0)) else (none)))) else (none))))) else (none)) else (none)) else (none)) = some r := H
    have A11 := Aside0.mk A110
    clear A110
    by_cases c12 : 0 ≤ t292
    · rw [if_pos c12] at H
      have c12b0 := eq_true c12
      have c12b1 : decide (0 ≤ t292) = true := decide_eq_true c12
      clear c12
      by_cases c13 : t292 ≤ (wrap64 (t292 + t293))
      · rw [if_pos c13] at H
        have c13b0 := eq_true c13
        have c13b1 : decide (t292 ≤ (wrap64 (t292 + t293))) = true := decide_eq_true c13
        by_cases c14 : (wrap64 (t292 + t293)) ≤ (t289.length : Int)
        · rw [if_pos c14] at H
          have c14b0 := eq_true c14
          have c14b1 : decide ((wrap64 (t292 + t293)) ≤ (t289.length : Int)) = true := decide_eq_true c14
          obtain ⟨y294, hy294⟩ : ∃ y_ : List Int, y_ = ((t289.take ((wrap64 (t292 + t293)) : Int).toNat).drop (t292 : Int).toNat) := ⟨_, rfl⟩
          replace H : ((fingerprint_Cost.f k y294 t289).bind fun bt298 => ((fingerprint_Cost.f k t286 t289).bind fun bt300 => ((some (([] : List Int) : List Int)).bind fun y302 => (if y302.length + t286.length < 17592186044416 then ((some (y302 ++ t286 : List Int)).bind fun y305 => ((airchecklaw36_pick.f a4 257).bind fun t308 => (if y305.length < 17592186044416 then ((fingerprint_Cost.f k (y305 ++ [wrap64 (t308 - 1)]) t289).bind fun bt312 => (airchecklaw36_FingerprintParts.l0 k t286 t289 bt298.1 bt298.2 bt300.1 bt300.2 bt312.1 bt312.2 0 ([] : List Int) 0)) else (none)))) else (none))))) = some r := by first | (rw [hy294]; with_reducible exact H) | (have H2_ := (Option.bind_some _ _).symm.trans H; rw [hy294]; with_reducible exact H2_) | (have H2_ := (Option.bind_some _ _).symm.trans H; with_reducible exact H2_) | with_reducible exact H | (rw [hy294]; exact H) | exact H
          have Ny294 := Aside0.mk hy294
          clear hy294
          replace H := Option.bind_eq_some_iff.mp H
          obtain ⟨⟨t298, t299⟩, A150, H⟩ := H
          replace H : ((fingerprint_Cost.f k t286 t289).bind fun bt300 => ((some (([] : List Int) : List Int)).bind fun y302 => (if y302.length + t286.length < 17592186044416 then ((some (y302 ++ t286 : List Int)).bind fun y305 => ((airchecklaw36_pick.f a4 257).bind fun t308 => (if y305.length < 17592186044416 then ((fingerprint_Cost.f k (y305 ++ [wrap64 (t308 - 1)]) t289).bind fun bt312 => (airchecklaw36_FingerprintParts.l0 k t286 t289 t298 t299 bt300.1 bt300.2 bt312.1 bt312.2 0 ([] : List Int) 0)) else (none)))) else (none)))) = some r := H
          have A15 := Aside0.mk A150
          clear A150
          replace H := Option.bind_eq_some_iff.mp H
          obtain ⟨⟨t300, t301⟩, A160, H⟩ := H
          replace H : ((some (([] : List Int) : List Int)).bind fun y302 => (if y302.length + t286.length < 17592186044416 then ((some (y302 ++ t286 : List Int)).bind fun y305 => ((airchecklaw36_pick.f a4 257).bind fun t308 => (if y305.length < 17592186044416 then ((fingerprint_Cost.f k (y305 ++ [wrap64 (t308 - 1)]) t289).bind fun bt312 => (airchecklaw36_FingerprintParts.l0 k t286 t289 t298 t299 t300 t301 bt312.1 bt312.2 0 ([] : List Int) 0)) else (none)))) else (none))) = some r := H
          have A16 := Aside0.mk A160
          clear A160
          obtain ⟨y302, hy302⟩ : ∃ y_ : List Int, y_ = (([] : List Int)) := ⟨_, rfl⟩
          replace H : (if y302.length + t286.length < 17592186044416 then ((some (y302 ++ t286 : List Int)).bind fun y305 => ((airchecklaw36_pick.f a4 257).bind fun t308 => (if y305.length < 17592186044416 then ((fingerprint_Cost.f k (y305 ++ [wrap64 (t308 - 1)]) t289).bind fun bt312 => (airchecklaw36_FingerprintParts.l0 k t286 t289 t298 t299 t300 t301 bt312.1 bt312.2 0 ([] : List Int) 0)) else (none)))) else (none)) = some r := by first | (rw [hy302]; with_reducible exact H) | (have H2_ := (Option.bind_some _ _).symm.trans H; rw [hy302]; with_reducible exact H2_) | (have H2_ := (Option.bind_some _ _).symm.trans H; with_reducible exact H2_) | with_reducible exact H | (rw [hy302]; exact H) | exact H
          have Ny302 := Aside0.mk hy302
          clear hy302
          by_cases c17 : y302.length + t286.length < 17592186044416
          · rw [if_pos c17] at H
            have LMc17 := Aside0.mk c17
            clear c17
            obtain ⟨y305, hy305⟩ : ∃ y_ : List Int, y_ = (y302 ++ t286) := ⟨_, rfl⟩
            replace H : ((airchecklaw36_pick.f a4 257).bind fun t308 => (if y305.length < 17592186044416 then ((fingerprint_Cost.f k (y305 ++ [wrap64 (t308 - 1)]) t289).bind fun bt312 => (airchecklaw36_FingerprintParts.l0 k t286 t289 t298 t299 t300 t301 bt312.1 bt312.2 0 ([] : List Int) 0)) else (none))) = some r := by first | (rw [hy305]; with_reducible exact H) | (have H2_ := (Option.bind_some _ _).symm.trans H; rw [hy305]; with_reducible exact H2_) | (have H2_ := (Option.bind_some _ _).symm.trans H; with_reducible exact H2_) | with_reducible exact H | (rw [hy305]; exact H) | exact H
            have Ny305 := Aside0.mk hy305
            clear hy305
            replace H := Option.bind_eq_some_iff.mp H
            obtain ⟨t308, A180, H⟩ := H
            replace H : (if y305.length < 17592186044416 then ((fingerprint_Cost.f k (y305 ++ [wrap64 (t308 - 1)]) t289).bind fun bt312 => (airchecklaw36_FingerprintParts.l0 k t286 t289 t298 t299 t300 t301 bt312.1 bt312.2 0 ([] : List Int) 0)) else (none)) = some r := H
            have A18 := Aside0.mk A180
            clear A180
            by_cases c19 : y305.length < 17592186044416
            · rw [if_pos c19] at H
              have LMc19 := Aside0.mk c19
              clear c19
              obtain ⟨y309, hy309⟩ : ∃ y_ : List Int, y_ = (y305 ++ [wrap64 (t308 - 1)]) := ⟨_, rfl⟩
              replace H : ((fingerprint_Cost.f k y309 t289).bind fun bt312 => (airchecklaw36_FingerprintParts.l0 k t286 t289 t298 t299 t300 t301 bt312.1 bt312.2 0 ([] : List Int) 0)) = some r := by first | (rw [hy309]; with_reducible exact H) | (have H2_ := (Option.bind_some _ _).symm.trans H; rw [hy309]; with_reducible exact H2_) | (have H2_ := (Option.bind_some _ _).symm.trans H; with_reducible exact H2_) | with_reducible exact H | (rw [hy309]; exact H) | exact H
              have Ny309 := Aside0.mk hy309
              clear hy309
              replace H := Option.bind_eq_some_iff.mp H
              obtain ⟨⟨t312, t313⟩, A200, H⟩ := H
              replace H : (airchecklaw36_FingerprintParts.l0 k t286 t289 t298 t299 t300 t301 t312 t313 0 ([] : List Int) 0) = some r := H
              have A20 := Aside0.mk A200
              clear A200
              have H' := Aside0.mk H
              clear H
              go_enter Try.func8, Try.ntmps8
              go_wp2_with (first | ((with_reducible refine gate_callee (f := 10) rfl ?_); refine goesL_ (some 28) rfl rfl Try.func10 (by kernel_rfl) rfl #[] rfl (by (try simp only [List.map_toArray, List.map_cons, List.map_nil]); first | done | rfl | (simp only [List.length_drop, List.length_take]; rfl)) ?_; (with_reducible refine (airchecklaw36_sane.calls  true _ A6.out).mono ?_); rintro e w21 ⟨rfl, hb⟩; refine ⟨_, rfl, ?_⟩; have n0_ := Aside0.mk (below_step (by repeat (first | (with_reducible first | exact HB.out | apply below_alloc | apply pw_below_drewN | apply below_drew1) | exact HB.out)) hb); clear HB; have HB := n0_; clear n0_; (try clear hb); (try clear hb2); (try clear hk); (try clear hi)) | ((with_reducible refine gate_callee (f := 12) rfl ?_); refine goesL_ (some 32) rfl rfl Try.func12 (by kernel_rfl) rfl #[.slice A0 l0.length c0] rfl (by (try simp only [List.map_toArray, List.map_cons, List.map_nil]); first | done | rfl | (simp only [List.length_drop, List.length_take]; rfl)) ?_; (with_reducible refine (aircheckref36_Codes2.calls k _ _ l0 t286 _ ?side1 ?side2 A8.out).mono ?_); (case side1 => repeat (first | exact (Kd.C_below HR0.out HB.out) | (with_reducible refine Kd.C_alloc ?_ _) | (with_reducible refine Kd.C_drewN ?_ _) | (with_reducible refine Kd.C_drew ?_))); (case side2 => exact HC0.out); rintro e w22 ⟨v287, rfl, ho0, hb⟩; refine ⟨_, rfl, ?_⟩; have n0_ := Aside0.mk (Kd.R_lower ho0 (below_size (by repeat (first | (with_reducible first | exact HB.out | apply below_alloc | apply pw_below_drewN | apply below_drew1) | exact HB.out)))); have n1_ := Aside0.mk (below_step (by repeat (first | (with_reducible first | exact HB.out | apply below_alloc | apply pw_below_drewN | apply below_drew1) | exact HB.out)) hb); clear HB; have HO288 := n0_; have HB := n1_; clear n0_ n1_; (try clear hb); (try clear hb2); (try clear hk); (try clear hi); (try clear ho0)) | ((with_reducible refine gate_callee (f := 13) rfl ?_); refine goesL_ (some 34) rfl rfl Try.func13 (by kernel_rfl) rfl #[.slice A1 l1.length c1] rfl (by (try simp only [List.map_toArray, List.map_cons, List.map_nil]); first | done | rfl | (simp only [List.length_drop, List.length_take]; rfl)) ?_; (with_reducible refine (aircheckref36_Codes.calls k _ _ l1 t289 _ ?side1 ?side2 A9.out).mono ?_); (case side1 => repeat (first | exact (Kd.C_below HR1.out HB.out) | (with_reducible refine Kd.C_alloc ?_ _) | (with_reducible refine Kd.C_drewN ?_ _) | (with_reducible refine Kd.C_drew ?_))); (case side2 => exact HC1.out); rintro e w23 ⟨v290, rfl, ho0, hb⟩; refine ⟨_, rfl, ?_⟩; have n0_ := Aside0.mk (Kd.R_elder' (by (with_reducible repeat (first | apply Kd.R_alloc | apply Kd.R_drewN | apply Kd.R_drew)); exact HO288.out) (Kd.R_base ho0) hb); have n1_ := Aside0.mk (Kd.R_lower (Kd.R_new' ho0 (Kd.R_lt (by (with_reducible repeat (first | apply Kd.R_alloc | apply Kd.R_drewN | apply Kd.R_drew)); exact HO288.out))) (below_size (by repeat (first | (with_reducible first | exact HB.out | apply below_alloc | apply pw_below_drewN | apply below_drew1) | exact HB.out)))); have n2_ := Aside0.mk (below_step (by repeat (first | (with_reducible first | exact HB.out | apply below_alloc | apply pw_below_drewN | apply below_drew1) | exact HB.out)) hb); clear HO288; clear HB; have HO288 := n0_; have HO291 := n1_; have HB := n2_; clear n0_ n1_ n2_; (try clear hb); (try clear hb2); (try clear hk); (try clear hi); (try clear ho0); obtain ⟨Ao24, co24, eo24⟩ := Kd.R_slice HO291.out; subst eo24) | ((with_reducible refine gate_callee (f := 33) rfl ?_); refine goesL_ (some 39) rfl rfl Try.func33 (by kernel_rfl) rfl #[.int .i64 a2, .int .i64 (wrap64 ((t289.length : Int) + 1))] rfl (by (try simp only [List.map_toArray, List.map_cons, List.map_nil]); first | done | rfl | (simp only [List.length_drop, List.length_take]; rfl)) ?_; (with_reducible refine (airchecklaw36_pick.calls a2 (wrap64 ((t289.length : Int) + 1)) t292 _ A10.out).mono ?_); rintro e w' ⟨rfl, ⟨nd, rfl⟩⟩; refine ⟨_, rfl, ?_⟩) | ((with_reducible refine gate_callee (f := 33) rfl ?_); refine goesL_ (some 50) rfl rfl Try.func33 (by kernel_rfl) rfl #[.int .i64 a3, .int .i64 (wrap64 ((wrap64 ((t289.length : Int) + 1)) - t292))] rfl (by (try simp only [List.map_toArray, List.map_cons, List.map_nil]); first | done | rfl | (simp only [List.length_drop, List.length_take]; rfl)) ?_; (with_reducible refine (airchecklaw36_pick.calls a3 (wrap64 ((wrap64 ((t289.length : Int) + 1)) - t292)) t293 _ A11.out).mono ?_); rintro e w' ⟨rfl, ⟨nd, rfl⟩⟩; refine ⟨_, rfl, ?_⟩; have q25 : ((wrap64 (t292 + t293)) : Int) ≤ ((t289.length : Int) : Int) := of_decide_eq_true (by first | (with_reducible assumption) | assumption); obtain ⟨i025, hi025, _, hsz25, _⟩ := info_parts info3; have hroom25 : t289.length ≤ co24 := (Kd.R_reads' HO291.out).2.1; have hC25 : Kd.C (Kd.int .i64) _ Ao24 t289.length t289 := (Kd.R_reads' HO291.out).2.2; have ql25 : (t292 : Int) ≤ ((wrap64 (t292 + t293)) : Int) := of_decide_eq_true (by first | (with_reducible assumption) | assumption); have q025 : (0 : Int) ≤ (t292 : Int) := of_decide_eq_true (by first | (with_reducible assumption) | assumption); have hcut25 := cut_mid (P := Try.prog) 22 3 .i64 .i64 Try.underlying22 hi025 1 hsz25 Ao24 t289.length co24 t292 (wrap64 (t292 + t293)) q025 ql25 q25 hroom25; have hr25 := Kd.C_mid (lo := (t292 : Int).toNat) (hi := ((wrap64 (t292 + t293)) : Int).toNat) (c := co24) hC25 (by omega) (by omega) hroom25; obtain ⟨A25, hA25⟩ : ∃ A_, A_ = (if co24 = (t292 : Int).toNat then Ao24 else (Ao24 : Option Addr).map (·.add ((t292 : Int).toNat * 1))) := ⟨_, rfl⟩; obtain ⟨c25, hc25⟩ : ∃ c_, c_ = co24 - (t292 : Int).toNat := ⟨_, rfl⟩; have hy25 : y294.length = ((wrap64 (t292 + t293)) : Int).toNat - (t292 : Int).toNat := (by rw [Ny294.out, List.length_drop, List.length_take] <;> omega); rw [show ((t289).take ((wrap64 (t292 + t293)) : Int).toNat).drop (t292 : Int).toNat = y294 from Ny294.out.symm] at hr25; replace hr25 : Kd.C (Kd.int .i64) _ A25 y294.length y294 := (by rw [hA25]; exact hr25); rw [← hy25, ← hA25, ← hc25] at hcut25; have HR297 := Aside0.mk hr25; have HC297 := Aside0.mk (show y294.length ≤ c25 from by rw [hy25, hc25]; exact Nat.sub_le_sub_right (Nat.le_trans (by omega) hroom25) _); clear hr25 hC25 hroom25 hi025 hsz25 hc25; have KY25 := Aside0.mk hy25; have KA25 := Aside0.mk hA25; clear hy25 hA25; have KL25 := Aside0.mk (show ((wrap64 (t292 + t293)) : Int).toNat ≤ t289.length from by omega); have KM25 := Aside0.mk (show (t292 : Int).toNat ≤ ((wrap64 (t292 + t293)) : Int).toNat from by omega); replace q25 := eq_true q25) | ((with_reducible refine gate_callee (f := 21) rfl ?_); refine goesL_ (some 54) rfl rfl Try.func21 (by kernel_rfl) rfl #[.slice A25 y294.length c25, .slice Ao24 t289.length co24] rfl (by (try simp only [List.map_toArray, List.map_cons, List.map_nil]); first | done | rfl | (simp only [List.length_drop, List.length_take]; rfl)) ?_; (with_reducible refine (fingerprint_Cost.calls k _ _ y294 _ _ t289 t298 t299 _ ?side1 ?side2 ?side3 ?side4 A15.out).mono ?_); (case side1 => repeat (first | exact (by repeat (first | (with_reducible exact HR297.out) | (with_reducible refine Kd.C_alloc ?_ _) | (with_reducible refine Kd.C_drewN ?_ _) | (with_reducible refine Kd.C_drew ?_) | exact HR297.out)) | (with_reducible refine Kd.C_alloc ?_ _) | (with_reducible refine Kd.C_drewN ?_ _) | (with_reducible refine Kd.C_drew ?_))); (case side2 => exact HC297.out); (case side3 => repeat (first | exact (Kd.R_reads' HO291.out).2.2 | (with_reducible refine Kd.C_alloc ?_ _) | (with_reducible refine Kd.C_drewN ?_ _) | (with_reducible refine Kd.C_drew ?_))); (case side4 => exact (Kd.R_reads' HO291.out).2.1); rintro e w26 ⟨rfl, hb⟩; refine ⟨_, rfl, ?_⟩; have n0_ := Aside0.mk (Kd.R_below (by (with_reducible repeat (first | apply Kd.R_alloc | apply Kd.R_drewN | apply Kd.R_drew)); exact HO288.out) hb); have n1_ := Aside0.mk (Kd.R_below (by (with_reducible repeat (first | apply Kd.R_alloc | apply Kd.R_drewN | apply Kd.R_drew)); exact HO291.out) hb); have n2_ := Aside0.mk (Kd.C_below (by repeat (first | (with_reducible exact HR297.out) | (with_reducible refine Kd.C_alloc ?_ _) | (with_reducible refine Kd.C_drewN ?_ _) | (with_reducible refine Kd.C_drew ?_) | exact HR297.out)) hb); have n3_ := Aside0.mk (below_step (by repeat (first | (with_reducible first | exact HB.out | apply below_alloc | apply pw_below_drewN | apply below_drew1) | exact HB.out)) hb); clear HO288; clear HO291; clear HR297; clear HB; have HO288 := n0_; have HO291 := n1_; have HR297 := n2_; have HB := n3_; clear n0_ n1_ n2_ n3_; (try clear hb); (try clear hb2); (try clear hk); (try clear hi); obtain ⟨Ao27, co27, eo27⟩ := Kd.R_slice HO288.out; subst eo27) | ((with_reducible refine gate_callee (f := 21) rfl ?_); refine goesL_ (some 60) rfl rfl Try.func21 (by kernel_rfl) rfl #[.slice Ao27 t286.length co27, .slice Ao24 t289.length co24] rfl (by (try simp only [List.map_toArray, List.map_cons, List.map_nil]); first | done | rfl | (simp only [List.length_drop, List.length_take]; rfl)) ?_; (with_reducible refine (fingerprint_Cost.calls k _ _ t286 _ _ t289 t300 t301 _ ?side1 ?side2 ?side3 ?side4 A16.out).mono ?_); (case side1 => repeat (first | exact (Kd.R_reads' HO288.out).2.2 | (with_reducible refine Kd.C_alloc ?_ _) | (with_reducible refine Kd.C_drewN ?_ _) | (with_reducible refine Kd.C_drew ?_))); (case side2 => exact (Kd.R_reads' HO288.out).2.1); (case side3 => repeat (first | exact (Kd.R_reads' HO291.out).2.2 | (with_reducible refine Kd.C_alloc ?_ _) | (with_reducible refine Kd.C_drewN ?_ _) | (with_reducible refine Kd.C_drew ?_))); (case side4 => exact (Kd.R_reads' HO291.out).2.1); rintro e w28 ⟨rfl, hb⟩; refine ⟨_, rfl, ?_⟩; have n0_ := Aside0.mk (Kd.R_below (by (with_reducible repeat (first | apply Kd.R_alloc | apply Kd.R_drewN | apply Kd.R_drew)); exact HO288.out) hb); have n1_ := Aside0.mk (Kd.R_below (by (with_reducible repeat (first | apply Kd.R_alloc | apply Kd.R_drewN | apply Kd.R_drew)); exact HO291.out) hb); have n2_ := Aside0.mk (Kd.C_below (by repeat (first | (with_reducible exact HR297.out) | (with_reducible refine Kd.C_alloc ?_ _) | (with_reducible refine Kd.C_drewN ?_ _) | (with_reducible refine Kd.C_drew ?_) | exact HR297.out)) hb); have n3_ := Aside0.mk (below_step (by repeat (first | (with_reducible first | exact HB.out | apply below_alloc | apply pw_below_drewN | apply below_drew1) | exact HB.out)) hb); clear HO288; clear HO291; clear HR297; clear HB; have HO288 := n0_; have HO291 := n1_; have HR297 := n2_; have HB := n3_; clear n0_ n1_ n2_ n3_; (try clear hb); (try clear hb2); (try clear hk); (try clear hi)) | ((with_reducible refine gate_dst (N := 64) rfl ?_); (try (refine gate_guard (by rfl) ?_; dsimp only)); refine Kd.R_lit (Kd.int .i64) _ 3 ?hg (N := 64) ?hd (xs := ([] : List Int)) (inner := []) (ok := fun _ => True) (okp := fun _ => True) ?hr ?hp (fun _ hk => hk) trivial (Below.refl _ _) (Nat.le_refl _) (by simp) ?_; (case hd => rfl); (case hg => rfl); (case hr => first | (go_simp; done) | (go_simp; rfl)); (case hp => exact (Reps.none _ _)); intro v303 w29 ho30 hb hg_ hnew_; clear hg_ hnew_; (first | rw [← Ny302.out] at ho30 | (simp only [Int.reduceToNat] at ho30; rw [← Ny302.out] at ho30)); have n0_ := Aside0.mk (Kd.R_elder' (by (with_reducible repeat (first | apply Kd.R_alloc | apply Kd.R_drewN | apply Kd.R_drew)); exact HO288.out) (Kd.R_base ho30) hb); have n1_ := Aside0.mk (Kd.R_elder' (by (with_reducible repeat (first | apply Kd.R_alloc | apply Kd.R_drewN | apply Kd.R_drew)); exact HO291.out) (Kd.R_base ho30) hb); have n2_ := Aside0.mk (Kd.R_lower (Kd.R_new' (Kd.R_new' ho30 (Kd.R_lt (by (with_reducible repeat (first | apply Kd.R_alloc | apply Kd.R_drewN | apply Kd.R_drew)); exact HO288.out))) (Kd.R_lt (by (with_reducible repeat (first | apply Kd.R_alloc | apply Kd.R_drewN | apply Kd.R_drew)); exact HO291.out))) (below_size (by repeat (first | (with_reducible first | exact HB.out | apply below_alloc | apply pw_below_drewN | apply below_drew1) | exact HB.out)))); have n3_ := Aside0.mk (Kd.C_below (by repeat (first | (with_reducible exact HR297.out) | (with_reducible refine Kd.C_alloc ?_ _) | (with_reducible refine Kd.C_drewN ?_ _) | (with_reducible refine Kd.C_drew ?_) | exact HR297.out)) hb); have n4_ := Aside0.mk (below_step (by repeat (first | (with_reducible first | exact HB.out | apply below_alloc | apply pw_below_drewN | apply below_drew1) | exact HB.out)) hb); clear HO288; clear HO291; clear HR297; clear HB; have HO288 := n0_; have HO291 := n1_; have HO304 := n2_; have HR297 := n3_; have HB := n4_; clear n0_ n1_ n2_ n3_ n4_; clear hb ho30) | ((with_reducible refine gate_builtin (b := .append) (xs := #[.tmp 64, .tmp 65]) rfl ?_); (try (refine gate_guard (by rfl) ?_; dsimp only)); at_builtin; refine Kd.R_append_rows (Kd.int .i64) (w0 := w) w.heap.size rfl (.tmp 64) (.tmp 65) 22 3 (.int .i64 0) 8 rfl Try.underlying22 info3 rfl (by decide) (by omega) v303 y302 t286 _ _ _ (fun k_ => some k_ ≠ (.slice Ao27 t286.length co27 : Value).ownBlock ∧ some k_ ≠ (.slice Ao24 t289.length co24 : Value).ownBlock) (fun _ => False) rfl rfl ?aO ?aR (fun _ _ h => h) (fun _ h => h.elim) ?aF ?aB ?aS ?aL ?_; (case aR => repeat (first | exact (Kd.R_reads' HO288.out).2.2 | (with_reducible refine Kd.C_alloc ?_ _) | (with_reducible refine Kd.C_drewN ?_ _) | (with_reducible refine Kd.C_drew ?_))); (case aB => exact (by repeat (first | (with_reducible first | exact HB.out | apply below_alloc | apply pw_below_drewN | apply below_drew1) | exact HB.out))); (case aF => exact (fun k_ hk => ⟨Kd.fresh' (Kd.R_lt (by (with_reducible repeat (first | apply Kd.R_alloc | apply Kd.R_drewN | apply Kd.R_drew)); exact HO288.out)) k_ hk, Kd.fresh' (Kd.R_lt (by (with_reducible repeat (first | apply Kd.R_alloc | apply Kd.R_drewN | apply Kd.R_drew)); exact HO291.out)) k_ hk⟩)); (case aO => exact (by (with_reducible repeat (first | apply Kd.R_alloc | apply Kd.R_drewN | apply Kd.R_drew)); exact Kd.R_mono HO304.out (fun _ hk => ⟨hk.1.2, hk.2⟩))); (case aS => exact (below_size (by repeat (first | (with_reducible first | exact HB.out | apply below_alloc | apply pw_below_drewN | apply below_drew1) | exact HB.out)))); (case aL => have := LMc17.out; omega); intro v306 w31 ho hb hg hat; rw [← Ny305.out] at ho; have n0_ := Aside0.mk (Kd.R_after (ok := (fun k_ => some k_ ≠ (.slice Ao24 t289.length co24 : Value).ownBlock)) (by (with_reducible repeat (first | apply Kd.R_alloc | apply Kd.R_drewN | apply Kd.R_drew)); exact Kd.R_mono HO288.out (fun _ hk => ⟨hk.1.2, hk.2⟩)) hg hat); have n1_ := Aside0.mk (Kd.R_after (ok := (fun k_ => some k_ ≠ (.slice Ao27 t286.length co27 : Value).ownBlock)) (by (with_reducible repeat (first | apply Kd.R_alloc | apply Kd.R_drewN | apply Kd.R_drew)); exact Kd.R_mono HO291.out (fun _ hk => ⟨hk.1.2, hk.2⟩)) hg hat); have n2_ := Aside0.mk (hb); have n3_ := Aside0.mk ((show Kd.C (Kd.int .i64) w31 A25 y294.length y294 from by rw [Ny294.out, KA25.out]; exact Kd.C_mid (lo := (t292 : Int).toNat) (hi := ((wrap64 (t292 + t293)) : Int).toNat) (c := co24) ((Kd.R_reads' (Kd.R_after (ok := (fun k_ => some k_ ≠ (.slice Ao27 t286.length co27 : Value).ownBlock)) (by (with_reducible repeat (first | apply Kd.R_alloc | apply Kd.R_drewN | apply Kd.R_drew)); exact Kd.R_mono HO291.out (fun _ hk => ⟨hk.1.2, hk.2⟩)) hg hat)).2.2) KM25.out KL25.out ((Kd.R_reads' (Kd.R_after (ok := (fun k_ => some k_ ≠ (.slice Ao27 t286.length co27 : Value).ownBlock)) (by (with_reducible repeat (first | apply Kd.R_alloc | apply Kd.R_drewN | apply Kd.R_drew)); exact Kd.R_mono HO291.out (fun _ hk => ⟨hk.1.2, hk.2⟩)) hg hat)).2.1))); have n4_ := Aside0.mk (ho); clear HO288; clear HO291; clear HB; clear HR297; clear HO304; have HO288 := n0_; have HO291 := n1_; have HB := n2_; have HR297 := n3_; have HO307 := n4_; clear n0_ n1_ n2_ n3_ n4_; clear ho hb hg hat) | ((with_reducible refine gate_callee (f := 33) rfl ?_); refine goesL_ (some 68) rfl rfl Try.func33 (by kernel_rfl) rfl #[.int .i64 a4, .int .i64 257] rfl (by (try simp only [List.map_toArray, List.map_cons, List.map_nil]); first | done | rfl | (simp only [List.length_drop, List.length_take]; rfl)) ?_; (with_reducible refine (airchecklaw36_pick.calls a4 257 t308 _ A18.out).mono ?_); rintro e w' ⟨rfl, ⟨nd, rfl⟩⟩; refine ⟨_, rfl, ?_⟩) | ((with_reducible refine gate_builtin (b := .append) (xs := #[.tmp 66, .tmp 70]) rfl ?_); (try (refine gate_guard (by rfl) ?_; dsimp only)); at_builtin; refine Kd.R_append (Kd.int .i64) (w0 := w) w.heap.size rfl (.tmp 66) (.tmp 70) 22 3 (.int .i64 0) 8 rfl Try.underlying22 info3 rfl (by decide) (by omega) v306 y305 (wrap64 (t308 - 1)) [.int .i64 (wrap64 (t308 - 1))] (fun k_ => some k_ ≠ (.slice Ao27 t286.length co27 : Value).ownBlock ∧ some k_ ≠ (.slice Ao24 t289.length co24 : Value).ownBlock) (fun _ => False) rfl rfl ?aP (fun _ hk => hk.elim) ?aF ?aO ?aB ?aS ?aL ?_; (case aP => exact rfl); (case aB => exact (by repeat (first | (with_reducible first | exact HB.out | apply below_alloc | apply pw_below_drewN | apply below_drew1) | exact HB.out))); (case aF => exact (fun k_ hk => ⟨Kd.fresh' (Kd.R_lt (by (with_reducible repeat (first | apply Kd.R_alloc | apply Kd.R_drewN | apply Kd.R_drew)); exact HO288.out)) k_ hk, Kd.fresh' (Kd.R_lt (by (with_reducible repeat (first | apply Kd.R_alloc | apply Kd.R_drewN | apply Kd.R_drew)); exact HO291.out)) k_ hk⟩)); (case aO => exact (by (with_reducible repeat (first | apply Kd.R_alloc | apply Kd.R_drewN | apply Kd.R_drew)); exact HO307.out)); (case aS => exact (below_size (by repeat (first | (with_reducible first | exact HB.out | apply below_alloc | apply pw_below_drewN | apply below_drew1) | exact HB.out)))); (case aL => have := LMc19.out; omega); intro v310 w32 ho hb hg hat; rw [← Ny309.out] at ho; have n0_ := Aside0.mk (Kd.R_after (ok := (fun k_ => some k_ ≠ (.slice Ao24 t289.length co24 : Value).ownBlock)) (by (with_reducible repeat (first | apply Kd.R_alloc | apply Kd.R_drewN | apply Kd.R_drew)); exact HO288.out) hg hat); have n1_ := Aside0.mk (Kd.R_after (ok := (fun k_ => some k_ ≠ (.slice Ao27 t286.length co27 : Value).ownBlock)) (by (with_reducible repeat (first | apply Kd.R_alloc | apply Kd.R_drewN | apply Kd.R_drew)); exact HO291.out) hg hat); have n2_ := Aside0.mk (hb); have n3_ := Aside0.mk ((show Kd.C (Kd.int .i64) w32 A25 y294.length y294 from by rw [Ny294.out, KA25.out]; exact Kd.C_mid (lo := (t292 : Int).toNat) (hi := ((wrap64 (t292 + t293)) : Int).toNat) (c := co24) ((Kd.R_reads' (Kd.R_after (ok := (fun k_ => some k_ ≠ (.slice Ao27 t286.length co27 : Value).ownBlock)) (by (with_reducible repeat (first | apply Kd.R_alloc | apply Kd.R_drewN | apply Kd.R_drew)); exact HO291.out) hg hat)).2.2) KM25.out KL25.out ((Kd.R_reads' (Kd.R_after (ok := (fun k_ => some k_ ≠ (.slice Ao27 t286.length co27 : Value).ownBlock)) (by (with_reducible repeat (first | apply Kd.R_alloc | apply Kd.R_drewN | apply Kd.R_drew)); exact HO291.out) hg hat)).2.1))); have n4_ := Aside0.mk (ho); clear HO288; clear HO291; clear HB; clear HR297; clear HO307; have HO288 := n0_; have HO291 := n1_; have HB := n2_; have HR297 := n3_; have HO311 := n4_; clear n0_ n1_ n2_ n3_ n4_; clear ho hb hg hat; obtain ⟨Ao33, co33, eo33⟩ := Kd.R_slice HO311.out; subst eo33) | ((with_reducible refine gate_callee (f := 21) rfl ?_); refine goesL_ (some 73) rfl rfl Try.func21 (by kernel_rfl) rfl #[.slice Ao33 y309.length co33, .slice Ao24 t289.length co24] rfl (by (try simp only [List.map_toArray, List.map_cons, List.map_nil]); first | done | rfl | (simp only [List.length_drop, List.length_take]; rfl)) ?_; (with_reducible refine (fingerprint_Cost.calls k _ _ y309 _ _ t289 t312 t313 _ ?side1 ?side2 ?side3 ?side4 A20.out).mono ?_); (case side1 => repeat (first | exact (Kd.R_reads' HO311.out).2.2 | (with_reducible refine Kd.C_alloc ?_ _) | (with_reducible refine Kd.C_drewN ?_ _) | (with_reducible refine Kd.C_drew ?_))); (case side2 => exact (Kd.R_reads' HO311.out).2.1); (case side3 => repeat (first | exact (Kd.R_reads' HO291.out).2.2 | (with_reducible refine Kd.C_alloc ?_ _) | (with_reducible refine Kd.C_drewN ?_ _) | (with_reducible refine Kd.C_drew ?_))); (case side4 => exact (Kd.R_reads' HO291.out).2.1); rintro e w34 ⟨rfl, hb⟩; refine ⟨_, rfl, ?_⟩; have n0_ := Aside0.mk (Kd.R_below (by (with_reducible repeat (first | apply Kd.R_alloc | apply Kd.R_drewN | apply Kd.R_drew)); exact HO288.out) hb); have n1_ := Aside0.mk (Kd.R_below (by (with_reducible repeat (first | apply Kd.R_alloc | apply Kd.R_drewN | apply Kd.R_drew)); exact HO291.out) hb); have n2_ := Aside0.mk (Kd.R_below (by (with_reducible repeat (first | apply Kd.R_alloc | apply Kd.R_drewN | apply Kd.R_drew)); exact HO311.out) hb); have n3_ := Aside0.mk (Kd.C_below (by repeat (first | (with_reducible exact HR297.out) | (with_reducible refine Kd.C_alloc ?_ _) | (with_reducible refine Kd.C_drewN ?_ _) | (with_reducible refine Kd.C_drew ?_) | exact HR297.out)) hb); have n4_ := Aside0.mk (below_step (by repeat (first | (with_reducible first | exact HB.out | apply below_alloc | apply pw_below_drewN | apply below_drew1) | exact HB.out)) hb); clear HO288; clear HO291; clear HO311; clear HR297; clear HB; have HO288 := n0_; have HO291 := n1_; have HO311 := n2_; have HR297 := n3_; have HB := n4_; clear n0_ n1_ n2_ n3_ n4_; (try clear hb); (try clear hb2); (try clear hk); (try clear hi)))
              go_loopg [21, 22, 24] k (fun kq v21 v22 v24 w' => ∃ (x21_1 : Int) (x22_1 : List Int) (x24_1 : Int), v21 = .int .i64 x21_1 ∧ v24 = .int .i64 x24_1 ∧ Aside0 (airchecklaw36_FingerprintParts.l0 kq t286 t289 t298 t299 t300 t301 t312 t313 x21_1 x22_1 x24_1 = some r) ∧ Aside0 (kq ≤ k) ∧ Aside0 (Kd.R (Kd.int .i64) 3 w' w.heap.size (fun k_ => some k_ ≠ ((.slice Ao24 t289.length co24) : Value).ownBlock ∧ some k_ ≠ (v22 : Value).ownBlock) (.slice Ao27 t286.length co27) t286) ∧ Aside0 (Kd.R (Kd.int .i64) 3 w' w.heap.size (fun k_ => some k_ ≠ ((.slice Ao27 t286.length co27) : Value).ownBlock ∧ some k_ ≠ (v22 : Value).ownBlock) (.slice Ao24 t289.length co24) t289) ∧ Aside0 (Kd.R (Kd.int .i64) 3 w' w.heap.size (fun k_ => some k_ ≠ ((.slice Ao27 t286.length co27) : Value).ownBlock ∧ some k_ ≠ ((.slice Ao24 t289.length co24) : Value).ownBlock) v22 x22_1) ∧ Aside0 (Below w.heap.size w w'))
              case atStart => exact ⟨(0), (([] : List Int)), (0), (by first | rfl | (simp; done) | (simp [*]; done)), (by first | rfl | (simp; done) | (simp [*]; done)), H', ⟨Nat.le_refl _⟩, ⟨by (with_reducible repeat (first | apply Kd.R_alloc | apply Kd.R_drewN | apply Kd.R_drew)); exact Kd.R_mono HO288.out (fun _ hk => ⟨hk.1, (by simp [Value.ownBlock])⟩)⟩, ⟨by (with_reducible repeat (first | apply Kd.R_alloc | apply Kd.R_drewN | apply Kd.R_drew)); exact Kd.R_mono HO291.out (fun _ hk => ⟨hk.1, (by simp [Value.ownBlock])⟩)⟩, ⟨by first | exact Kd.R_nil _ _ _ _ _ | exact Kd.N_nil _ _ _ _ _ | exact Kd.V_nil _ _ _ _ _ | exact Kd.Q_nil _ _ _ _ _ | exact Kd.S_nil _ _ _ _ _⟩, ⟨by repeat (first | (with_reducible first | exact HB.out | apply below_alloc | apply pw_below_drewN | apply below_drew1) | exact HB.out)⟩⟩
              case round => as_aux_lemma =>
                clear H'
                try clear c1
                try clear c2
                try clear p2
                try clear q2
                try clear c3
                try clear p6
                try clear c7
                try clear c8
                try clear c10
                try clear c12
                try clear c12b0
                try clear c12b1
                try clear c13
                try clear c13b0
                try clear c13b1
                try clear c14
                try clear c14b0
                try clear c14b1
                try clear c17
                try clear c19
                try clear c21
                try clear c25
                try clear q25
                try clear c33
                try clear q025
                try clear q25
                obtain ⟨x21_1, x22_1, x24_1, rfl, rfl, HA, HK1, HO_12, HO_13, HO_22, HB⟩ := hrel
                cases gk with
                | zero => exact absurd HA.out (by simp [airchecklaw36_FingerprintParts.l0])
                | succ k1 =>
                  have H := HA.out
                  clear HA
                  simp only [airchecklaw36_FingerprintParts.l0] at H
                  by_cases c35 : x24_1 < (t286.length : Int)
                  · rw [if_pos c35] at H
                    have c35b0 : decide (x24_1 < (t286.length : Int)) = true := decide_eq_true c35
                    clear c35
                    obtain ⟨ji36, hji36⟩ : ∃ j_ : Int, (wrap64 ((wrap64 ((t286.length : Int) - 1)) - x24_1)) = j_ := ⟨_, rfl⟩
                    replace H : (if 0 ≤ (ji36) then (if (ji36) < (t286.length : Int) then (if x22_1.length < 17592186044416 then ((some (x22_1 ++ [rd t286 (ji36)] : List Int)).bind fun y315 => (if 0 ≤ x24_1 then (if (rd t286 x24_1) = (-1) then (airchecklaw36_FingerprintParts.l0 k1 t286 t289 t298 t299 t300 t301 t312 t313 (wrap64 (x21_1 + 1)) y315 (wrap64 (x24_1 + 1))) else (airchecklaw36_FingerprintParts.l0 k1 t286 t289 t298 t299 t300 t301 t312 t313 x21_1 y315 (wrap64 (x24_1 + 1)))) else (none))) else (none)) else (none)) else (none)) = some r := by first | (rw [hji36] at H; exact H) | (simp only [hji36] at H ⊢; exact H)
                    have hji36w : (IntKind.i64.wrap ((wrap64 ((t286.length : Int) - 1)) - x24_1)) = ji36 := (i64_w _).trans hji36
                    by_cases c37 : 0 ≤ (ji36)
                    · rw [if_pos c37] at H
                      have c37b0 : decide (0 ≤ (ji36)) = true := decide_eq_true c37
                      clear c37
                      by_cases c38 : (ji36) < (t286.length : Int)
                      · rw [if_pos c38] at H
                        have c38b0 : decide ((ji36) < (t286.length : Int)) = true := decide_eq_true c38
                        clear c38
                        by_cases c39 : x22_1.length < 17592186044416
                        · rw [if_pos c39] at H
                          have LMc39 := Aside0.mk c39
                          clear c39
                          obtain ⟨y315, hy315⟩ : ∃ y_ : List Int, y_ = (x22_1 ++ [rd t286 (ji36)]) := ⟨_, rfl⟩
                          replace H : (if 0 ≤ x24_1 then (if (rd t286 x24_1) = (-1) then (airchecklaw36_FingerprintParts.l0 k1 t286 t289 t298 t299 t300 t301 t312 t313 (wrap64 (x21_1 + 1)) y315 (wrap64 (x24_1 + 1))) else (airchecklaw36_FingerprintParts.l0 k1 t286 t289 t298 t299 t300 t301 t312 t313 x21_1 y315 (wrap64 (x24_1 + 1)))) else (none)) = some r := by first | (rw [hy315]; with_reducible exact H) | (have H2_ := (Option.bind_some _ _).symm.trans H; rw [hy315]; with_reducible exact H2_) | (have H2_ := (Option.bind_some _ _).symm.trans H; with_reducible exact H2_) | with_reducible exact H | (rw [hy315]; exact H) | exact H
                          have Ny315 := Aside0.mk hy315
                          clear hy315
                          by_cases c40 : 0 ≤ x24_1
                          · rw [if_pos c40] at H
                            have c40b0 : decide (0 ≤ x24_1) = true := decide_eq_true c40
                            clear c40
                            by_cases c41 : (rd t286 x24_1) = (-1)
                            · rw [if_pos c41] at H
                              have c41b0 : ((rd t286 x24_1) == (-1)) = true := beq_iff_eq.mpr c41
                              have c41b1 : ((rd t286 x24_1) != (-1)) = false := bne_eq_false_iff_eq.mpr c41
                              clear c41
                              have H' := Aside0.mk H
                              clear H
                              have p314 : 0 ≤ ((ji36) : Int) := of_decide_eq_true (by first | (with_reducible assumption) | assumption)
                              have q314 : (ji36) < (t286.length : Int) := of_decide_eq_true (by first | (with_reducible assumption) | assumption)
                              obtain ⟨ad314, e314, hx314_0⟩ := Kd.at_int (Kd.R_reads' HO_12.out).2.2 (ji36) p314 q314
                              cases e314
                              replace p314 := eq_true p314
                              replace q314 := eq_true q314
                              go_wp2_with (first | ((with_reducible refine gate_builtin (b := .append) (xs := #[.tmp 82, .tmp 91]) rfl ?_); (try (refine gate_guard (by rfl) ?_; dsimp only)); at_builtin; refine Kd.R_append (Kd.int .i64) (w0 := w) w.heap.size rfl (.tmp 82) (.tmp 91) 22 3 (.int .i64 0) 8 rfl Try.underlying22 info3 rfl (by decide) (by omega) u22 x22_1 (rd t286 (ji36)) [.int .i64 (rd t286 (ji36))] (fun k_ => some k_ ≠ (.slice (some ad314) t286.length co27 : Value).ownBlock ∧ some k_ ≠ (.slice Ao24 t289.length co24 : Value).ownBlock) (fun _ => False) rfl rfl ?aP (fun _ hk => hk.elim) ?aF ?aO ?aB ?aS ?aL ?_; (case aP => exact rfl); (case aB => exact (by repeat (first | (with_reducible first | exact HB.out | apply below_alloc | apply pw_below_drewN | apply below_drew1) | exact HB.out))); (case aF => exact (fun k_ hk => ⟨Kd.fresh' (Kd.R_lt (by (with_reducible repeat (first | apply Kd.R_alloc | apply Kd.R_drewN | apply Kd.R_drew)); exact HO_12.out)) k_ hk, Kd.fresh' (Kd.R_lt (by (with_reducible repeat (first | apply Kd.R_alloc | apply Kd.R_drewN | apply Kd.R_drew)); exact HO_13.out)) k_ hk⟩)); (case aO => exact (by (with_reducible repeat (first | apply Kd.R_alloc | apply Kd.R_drewN | apply Kd.R_drew)); exact HO_22.out)); (case aS => exact (below_size (by repeat (first | (with_reducible first | exact HB.out | apply below_alloc | apply pw_below_drewN | apply below_drew1) | exact HB.out)))); (case aL => have := LMc39.out; omega); intro v316 w42 ho hb hg hat; rw [← Ny315.out] at ho; have n0_ := Aside0.mk (Kd.R_after (ok := (fun k_ => some k_ ≠ (.slice Ao24 t289.length co24 : Value).ownBlock)) (by (with_reducible repeat (first | apply Kd.R_alloc | apply Kd.R_drewN | apply Kd.R_drew)); exact HO_12.out) hg hat); have n1_ := Aside0.mk (Kd.R_after (ok := (fun k_ => some k_ ≠ (.slice (some ad314) t286.length co27 : Value).ownBlock)) (by (with_reducible repeat (first | apply Kd.R_alloc | apply Kd.R_drewN | apply Kd.R_drew)); exact HO_13.out) hg hat); have n2_ := Aside0.mk (hb); have n3_ := Aside0.mk (ho); clear HO_12; clear HO_13; clear HB; clear HO_22; have HO_12 := n0_; have HO_13 := n1_; have HB := n2_; have HO317 := n3_; clear n0_ n1_ n2_ n3_; clear ho hb hg hat; have p318 : 0 ≤ (x24_1 : Int) := of_decide_eq_true (by first | (with_reducible assumption) | assumption); have q318 : x24_1 < (t286.length : Int) := of_decide_eq_true (by first | (with_reducible assumption) | assumption); obtain ⟨ad318, e318, hx318_0⟩ := Kd.at_int (Kd.R_reads' HO_12.out).2.2 x24_1 p318 q318; obtain rfl : ad314 = ad318 := (by injection e318); replace p318 := eq_true p318; replace q318 := eq_true q318))
                              go_roundg k1
                              case measure => have := HK1.out; omega
                              case rel => exact ⟨(wrap64 (x21_1 + 1)), (y315), (wrap64 (x24_1 + 1)), (by first | rfl | (simp; done) | (simp [*]; done)), (by first | rfl | (simp; done) | (simp [*]; done)), H', ⟨by have := HK1.out; omega⟩, ⟨by (with_reducible repeat (first | apply Kd.R_alloc | apply Kd.R_drewN | apply Kd.R_drew)); exact HO_12.out⟩, ⟨by (with_reducible repeat (first | apply Kd.R_alloc | apply Kd.R_drewN | apply Kd.R_drew)); exact HO_13.out⟩, ⟨by (with_reducible repeat (first | apply Kd.R_alloc | apply Kd.R_drewN | apply Kd.R_drew)); exact HO317.out⟩, ⟨by repeat (first | (with_reducible first | exact HB.out | apply below_alloc | apply pw_below_drewN | apply below_drew1) | exact HB.out)⟩⟩
                            · rw [if_neg c41] at H
                              have c41b0 : ((rd t286 x24_1) == (-1)) = false := beq_eq_false_iff_ne.mpr c41
                              have c41b1 : ((rd t286 x24_1) != (-1)) = true := bne_iff_ne.mpr c41
                              have H' := Aside0.mk H
                              clear H
                              have p314 : 0 ≤ ((ji36) : Int) := of_decide_eq_true (by first | (with_reducible assumption) | assumption)
                              have q314 : (ji36) < (t286.length : Int) := of_decide_eq_true (by first | (with_reducible assumption) | assumption)
                              obtain ⟨ad314, e314, hx314_0⟩ := Kd.at_int (Kd.R_reads' HO_12.out).2.2 (ji36) p314 q314
                              cases e314
                              replace p314 := eq_true p314
                              replace q314 := eq_true q314
                              go_wp2_with (first | ((with_reducible refine gate_builtin (b := .append) (xs := #[.tmp 82, .tmp 91]) rfl ?_); (try (refine gate_guard (by rfl) ?_; dsimp only)); at_builtin; refine Kd.R_append (Kd.int .i64) (w0 := w) w.heap.size rfl (.tmp 82) (.tmp 91) 22 3 (.int .i64 0) 8 rfl Try.underlying22 info3 rfl (by decide) (by omega) u22 x22_1 (rd t286 (ji36)) [.int .i64 (rd t286 (ji36))] (fun k_ => some k_ ≠ (.slice (some ad314) t286.length co27 : Value).ownBlock ∧ some k_ ≠ (.slice Ao24 t289.length co24 : Value).ownBlock) (fun _ => False) rfl rfl ?aP (fun _ hk => hk.elim) ?aF ?aO ?aB ?aS ?aL ?_; (case aP => exact rfl); (case aB => exact (by repeat (first | (with_reducible first | exact HB.out | apply below_alloc | apply pw_below_drewN | apply below_drew1) | exact HB.out))); (case aF => exact (fun k_ hk => ⟨Kd.fresh' (Kd.R_lt (by (with_reducible repeat (first | apply Kd.R_alloc | apply Kd.R_drewN | apply Kd.R_drew)); exact HO_12.out)) k_ hk, Kd.fresh' (Kd.R_lt (by (with_reducible repeat (first | apply Kd.R_alloc | apply Kd.R_drewN | apply Kd.R_drew)); exact HO_13.out)) k_ hk⟩)); (case aO => exact (by (with_reducible repeat (first | apply Kd.R_alloc | apply Kd.R_drewN | apply Kd.R_drew)); exact HO_22.out)); (case aS => exact (below_size (by repeat (first | (with_reducible first | exact HB.out | apply below_alloc | apply pw_below_drewN | apply below_drew1) | exact HB.out)))); (case aL => have := LMc39.out; omega); intro v316 w43 ho hb hg hat; rw [← Ny315.out] at ho; have n0_ := Aside0.mk (Kd.R_after (ok := (fun k_ => some k_ ≠ (.slice Ao24 t289.length co24 : Value).ownBlock)) (by (with_reducible repeat (first | apply Kd.R_alloc | apply Kd.R_drewN | apply Kd.R_drew)); exact HO_12.out) hg hat); have n1_ := Aside0.mk (Kd.R_after (ok := (fun k_ => some k_ ≠ (.slice (some ad314) t286.length co27 : Value).ownBlock)) (by (with_reducible repeat (first | apply Kd.R_alloc | apply Kd.R_drewN | apply Kd.R_drew)); exact HO_13.out) hg hat); have n2_ := Aside0.mk (hb); have n3_ := Aside0.mk (ho); clear HO_12; clear HO_13; clear HB; clear HO_22; have HO_12 := n0_; have HO_13 := n1_; have HB := n2_; have HO317 := n3_; clear n0_ n1_ n2_ n3_; clear ho hb hg hat; have p318 : 0 ≤ (x24_1 : Int) := of_decide_eq_true (by first | (with_reducible assumption) | assumption); have q318 : x24_1 < (t286.length : Int) := of_decide_eq_true (by first | (with_reducible assumption) | assumption); obtain ⟨ad318, e318, hx318_0⟩ := Kd.at_int (Kd.R_reads' HO_12.out).2.2 x24_1 p318 q318; obtain rfl : ad314 = ad318 := (by injection e318); replace p318 := eq_true p318; replace q318 := eq_true q318))
                              go_roundg k1
                              case measure => have := HK1.out; omega
                              case rel => exact ⟨(x21_1), (y315), (wrap64 (x24_1 + 1)), (by first | rfl | (simp; done) | (simp [*]; done)), (by first | rfl | (simp; done) | (simp [*]; done)), H', ⟨by have := HK1.out; omega⟩, ⟨by (with_reducible repeat (first | apply Kd.R_alloc | apply Kd.R_drewN | apply Kd.R_drew)); exact HO_12.out⟩, ⟨by (with_reducible repeat (first | apply Kd.R_alloc | apply Kd.R_drewN | apply Kd.R_drew)); exact HO_13.out⟩, ⟨by (with_reducible repeat (first | apply Kd.R_alloc | apply Kd.R_drewN | apply Kd.R_drew)); exact HO317.out⟩, ⟨by repeat (first | (with_reducible first | exact HB.out | apply below_alloc | apply pw_below_drewN | apply below_drew1) | exact HB.out)⟩⟩
                          · rw [if_neg c40] at H
                            exact absurd H (by simp)
                        · rw [if_neg c39] at H
                          exact absurd H (by simp)
                      · rw [if_neg c38] at H
                        exact absurd H (by simp)
                    · rw [if_neg c37] at H
                      exact absurd H (by simp)
                  · rw [if_neg c35] at H
                    have c35b0 : decide (x24_1 < (t286.length : Int)) = false := decide_eq_false c35
                    clear c35
                    have H' := Aside0.mk H
                    clear H
                    go_wp2
                    go_loopg [23, 25] k1 (fun kq v23 v25 w' => ∃ (x23_2 : List Int) (x25_2 : Int), v25 = .int .i64 x25_2 ∧ Aside0 (airchecklaw36_FingerprintParts.l1 kq t286 t289 t298 t299 t300 t301 t312 t313 x21_1 x22_1 x23_2 x25_2 = some r) ∧ Aside0 (kq ≤ k1) ∧ Aside0 (Kd.R (Kd.int .i64) 3 w' w.heap.size (fun k_ => some k_ ≠ ((.slice Ao24 t289.length co24) : Value).ownBlock ∧ some k_ ≠ (u22 : Value).ownBlock ∧ some k_ ≠ (v23 : Value).ownBlock) (.slice Ao27 t286.length co27) t286) ∧ Aside0 (Kd.R (Kd.int .i64) 3 w' w.heap.size (fun k_ => some k_ ≠ ((.slice Ao27 t286.length co27) : Value).ownBlock ∧ some k_ ≠ (u22 : Value).ownBlock ∧ some k_ ≠ (v23 : Value).ownBlock) (.slice Ao24 t289.length co24) t289) ∧ Aside0 (Kd.R (Kd.int .i64) 3 w' w.heap.size (fun k_ => some k_ ≠ ((.slice Ao27 t286.length co27) : Value).ownBlock ∧ some k_ ≠ ((.slice Ao24 t289.length co24) : Value).ownBlock ∧ some k_ ≠ (v23 : Value).ownBlock) u22 x22_1) ∧ Aside0 (Kd.R (Kd.int .i64) 3 w' w.heap.size (fun k_ => some k_ ≠ ((.slice Ao27 t286.length co27) : Value).ownBlock ∧ some k_ ≠ ((.slice Ao24 t289.length co24) : Value).ownBlock ∧ some k_ ≠ (u22 : Value).ownBlock) v23 x23_2) ∧ Aside0 (Below w.heap.size w w'))
                    case atStart => exact ⟨(([] : List Int)), (0), (by first | rfl | (simp; done) | (simp [*]; done)), H', ⟨Nat.le_refl _⟩, ⟨by (with_reducible repeat (first | apply Kd.R_alloc | apply Kd.R_drewN | apply Kd.R_drew)); exact Kd.R_mono HO_12.out (fun _ hk => ⟨hk.1, ⟨hk.2, (by simp [Value.ownBlock])⟩⟩)⟩, ⟨by (with_reducible repeat (first | apply Kd.R_alloc | apply Kd.R_drewN | apply Kd.R_drew)); exact Kd.R_mono HO_13.out (fun _ hk => ⟨hk.1, ⟨hk.2, (by simp [Value.ownBlock])⟩⟩)⟩, ⟨by (with_reducible repeat (first | apply Kd.R_alloc | apply Kd.R_drewN | apply Kd.R_drew)); exact Kd.R_mono HO_22.out (fun _ hk => ⟨hk.1, ⟨hk.2, (by simp [Value.ownBlock])⟩⟩)⟩, ⟨by first | exact Kd.R_nil _ _ _ _ _ | exact Kd.N_nil _ _ _ _ _ | exact Kd.V_nil _ _ _ _ _ | exact Kd.Q_nil _ _ _ _ _ | exact Kd.S_nil _ _ _ _ _⟩, ⟨by repeat (first | (with_reducible first | exact HB.out | apply below_alloc | apply pw_below_drewN | apply below_drew1) | exact HB.out)⟩⟩
                    case round => as_aux_lemma =>
                      clear H'
                      try clear c1
                      try clear c2
                      try clear p2
                      try clear q2
                      try clear c3
                      try clear p3
                      try clear q3
                      try clear hx3
                      try clear c4
                      try clear p6
                      try clear c7
                      try clear c8
                      try clear c10
                      try clear c12
                      try clear c12b0
                      try clear c12b1
                      try clear c13
                      try clear c13b0
                      try clear c13b1
                      try clear c14
                      try clear c14b0
                      try clear c14b1
                      try clear c17
                      try clear c19
                      try clear c21
                      try clear c25
                      try clear q25
                      try clear p31
                      try clear q31
                      try clear hx31
                      try clear c33
                      try clear c35
                      try clear c35b0
                      try clear c37
                      try clear c37b0
                      try clear c38
                      try clear c38b0
                      try clear c39
                      try clear c40
                      try clear c40b0
                      try clear c41
                      try clear c41b0
                      try clear c41b1
                      try clear hx314_0
                      try clear hx318_0
                      try clear p2
                      try clear p314
                      try clear p318
                      try clear p6
                      try clear q025
                      try clear q2
                      try clear q25
                      try clear q314
                      try clear q318
                      obtain ⟨x23_2, x25_2, rfl, HA, HK2, HO_12, HO_13, HO_22, HO_23, HB⟩ := hrel
                      cases gk with
                      | zero => exact absurd HA.out (by simp [airchecklaw36_FingerprintParts.l1])
                      | succ k2 =>
                        have H := HA.out
                        clear HA
                        simp only [airchecklaw36_FingerprintParts.l1] at H
                        by_cases c44 : x25_2 < (t289.length : Int)
                        · rw [if_pos c44] at H
                          have c44b0 : decide (x25_2 < (t289.length : Int)) = true := decide_eq_true c44
                          clear c44
                          obtain ⟨ji45, hji45⟩ : ∃ j_ : Int, (wrap64 ((wrap64 ((t289.length : Int) - 1)) - x25_2)) = j_ := ⟨_, rfl⟩
                          replace H : (if 0 ≤ (ji45) then (if (ji45) < (t289.length : Int) then (if x23_2.length < 17592186044416 then (airchecklaw36_FingerprintParts.l1 k2 t286 t289 t298 t299 t300 t301 t312 t313 x21_1 x22_1 (x23_2 ++ [rd t289 (ji45)]) (wrap64 (x25_2 + 1))) else (none)) else (none)) else (none)) = some r := by first | (rw [hji45] at H; exact H) | (simp only [hji45] at H ⊢; exact H)
                          have hji45w : (IntKind.i64.wrap ((wrap64 ((t289.length : Int) - 1)) - x25_2)) = ji45 := (i64_w _).trans hji45
                          by_cases c46 : 0 ≤ (ji45)
                          · rw [if_pos c46] at H
                            have c46b0 : decide (0 ≤ (ji45)) = true := decide_eq_true c46
                            clear c46
                            by_cases c47 : (ji45) < (t289.length : Int)
                            · rw [if_pos c47] at H
                              have c47b0 : decide ((ji45) < (t289.length : Int)) = true := decide_eq_true c47
                              clear c47
                              by_cases c48 : x23_2.length < 17592186044416
                              · rw [if_pos c48] at H
                                have LMc48 := Aside0.mk c48
                                clear c48
                                obtain ⟨y320, hy320⟩ : ∃ y_ : List Int, y_ = (x23_2 ++ [rd t289 (ji45)]) := ⟨_, rfl⟩
                                replace H : (airchecklaw36_FingerprintParts.l1 k2 t286 t289 t298 t299 t300 t301 t312 t313 x21_1 x22_1 y320 (wrap64 (x25_2 + 1))) = some r := by first | (rw [hy320]; with_reducible exact H) | (have H2_ := (Option.bind_some _ _).symm.trans H; rw [hy320]; with_reducible exact H2_) | (have H2_ := (Option.bind_some _ _).symm.trans H; with_reducible exact H2_) | with_reducible exact H | (rw [hy320]; exact H) | exact H
                                have Ny320 := Aside0.mk hy320
                                clear hy320
                                have H' := Aside0.mk H
                                clear H
                                have p319 : 0 ≤ ((ji45) : Int) := of_decide_eq_true (by first | (with_reducible assumption) | assumption)
                                have q319 : (ji45) < (t289.length : Int) := of_decide_eq_true (by first | (with_reducible assumption) | assumption)
                                obtain ⟨ad319, e319, hx319_0⟩ := Kd.at_int (Kd.R_reads' HO_13.out).2.2 (ji45) p319 q319
                                cases e319
                                replace p319 := eq_true p319
                                replace q319 := eq_true q319
                                go_wp2_with (first | ((with_reducible refine gate_builtin (b := .append) (xs := #[.tmp 106, .tmp 115]) rfl ?_); (try (refine gate_guard (by rfl) ?_; dsimp only)); at_builtin; refine Kd.R_append (Kd.int .i64) (w0 := w) w.heap.size rfl (.tmp 106) (.tmp 115) 22 3 (.int .i64 0) 8 rfl Try.underlying22 info3 rfl (by decide) (by omega) u23 x23_2 (rd t289 (ji45)) [.int .i64 (rd t289 (ji45))] (fun k_ => some k_ ≠ (.slice Ao27 t286.length co27 : Value).ownBlock ∧ some k_ ≠ (.slice (some ad319) t289.length co24 : Value).ownBlock ∧ some k_ ≠ (u22 : Value).ownBlock) (fun _ => False) rfl rfl ?aP (fun _ hk => hk.elim) ?aF ?aO ?aB ?aS ?aL ?_; (case aP => exact rfl); (case aB => exact (by repeat (first | (with_reducible first | exact HB.out | apply below_alloc | apply pw_below_drewN | apply below_drew1) | exact HB.out))); (case aF => exact (fun k_ hk => ⟨Kd.fresh' (Kd.R_lt (by (with_reducible repeat (first | apply Kd.R_alloc | apply Kd.R_drewN | apply Kd.R_drew)); exact HO_12.out)) k_ hk, Kd.fresh' (Kd.R_lt (by (with_reducible repeat (first | apply Kd.R_alloc | apply Kd.R_drewN | apply Kd.R_drew)); exact HO_13.out)) k_ hk, Kd.fresh' (Kd.R_lt (by (with_reducible repeat (first | apply Kd.R_alloc | apply Kd.R_drewN | apply Kd.R_drew)); exact HO_22.out)) k_ hk⟩)); (case aO => exact (by (with_reducible repeat (first | apply Kd.R_alloc | apply Kd.R_drewN | apply Kd.R_drew)); exact HO_23.out)); (case aS => exact (below_size (by repeat (first | (with_reducible first | exact HB.out | apply below_alloc | apply pw_below_drewN | apply below_drew1) | exact HB.out)))); (case aL => have := LMc48.out; omega); intro v321 w49 ho hb hg hat; rw [← Ny320.out] at ho; have n0_ := Aside0.mk (Kd.R_after (ok := (fun k_ => some k_ ≠ (.slice (some ad319) t289.length co24 : Value).ownBlock ∧ some k_ ≠ (u22 : Value).ownBlock)) (by (with_reducible repeat (first | apply Kd.R_alloc | apply Kd.R_drewN | apply Kd.R_drew)); exact Kd.R_mono HO_12.out (fun _ hk => ⟨⟨hk.1, hk.2.1⟩, hk.2.2⟩)) hg hat); have n1_ := Aside0.mk (Kd.R_after (ok := (fun k_ => some k_ ≠ (.slice Ao27 t286.length co27 : Value).ownBlock ∧ some k_ ≠ (u22 : Value).ownBlock)) (by (with_reducible repeat (first | apply Kd.R_alloc | apply Kd.R_drewN | apply Kd.R_drew)); exact Kd.R_mono HO_13.out (fun _ hk => ⟨⟨hk.1, hk.2.1⟩, hk.2.2⟩)) hg hat); have n2_ := Aside0.mk (Kd.R_after (ok := (fun k_ => some k_ ≠ (.slice Ao27 t286.length co27 : Value).ownBlock ∧ some k_ ≠ (.slice (some ad319) t289.length co24 : Value).ownBlock)) (by (with_reducible repeat (first | apply Kd.R_alloc | apply Kd.R_drewN | apply Kd.R_drew)); exact Kd.R_mono HO_22.out (fun _ hk => ⟨⟨hk.1, hk.2.1⟩, hk.2.2⟩)) hg hat); have n3_ := Aside0.mk (hb); have n4_ := Aside0.mk (ho); clear HO_12; clear HO_13; clear HO_22; clear HB; clear HO_23; have HO_12 := n0_; have HO_13 := n1_; have HO_22 := n2_; have HB := n3_; have HO322 := n4_; clear n0_ n1_ n2_ n3_ n4_; clear ho hb hg hat))
                                go_roundg k2
                                case measure => have := HK1.out; have := HK2.out; omega
                                case rel => exact ⟨(y320), (wrap64 (x25_2 + 1)), (by first | rfl | (simp; done) | (simp [*]; done)), H', ⟨by have := HK1.out; have := HK2.out; omega⟩, ⟨by (with_reducible repeat (first | apply Kd.R_alloc | apply Kd.R_drewN | apply Kd.R_drew)); exact Kd.R_mono HO_12.out (fun _ hk => ⟨hk.1.1, ⟨hk.1.2, hk.2⟩⟩)⟩, ⟨by (with_reducible repeat (first | apply Kd.R_alloc | apply Kd.R_drewN | apply Kd.R_drew)); exact Kd.R_mono HO_13.out (fun _ hk => ⟨hk.1.1, ⟨hk.1.2, hk.2⟩⟩)⟩, ⟨by (with_reducible repeat (first | apply Kd.R_alloc | apply Kd.R_drewN | apply Kd.R_drew)); exact Kd.R_mono HO_22.out (fun _ hk => ⟨hk.1.1, ⟨hk.1.2, hk.2⟩⟩)⟩, ⟨by (with_reducible repeat (first | apply Kd.R_alloc | apply Kd.R_drewN | apply Kd.R_drew)); exact HO322.out⟩, ⟨by repeat (first | (with_reducible first | exact HB.out | apply below_alloc | apply pw_below_drewN | apply below_drew1) | exact HB.out)⟩⟩
                              · rw [if_neg c48] at H
                                exact absurd H (by simp)
                            · rw [if_neg c47] at H
                              exact absurd H (by simp)
                          · rw [if_neg c46] at H
                            exact absurd H (by simp)
                        · rw [if_neg c44] at H
                          have c44b0 : decide (x25_2 < (t289.length : Int)) = false := decide_eq_false c44
                          clear c44
                          replace H := Option.bind_eq_some_iff.mp H
                          obtain ⟨⟨t323, t324⟩, A500, H⟩ := H
                          replace H : (if t299 = 0 then (if t301 = 0 then (if t313 = 0 then (if t324 = 0 then (if t298 = 0 then (if t312 ≥ t300 then (if t312 ≤ (wrap64 (t300 + 1)) then (if t300 ≥ x21_1 then (if t300 ≤ (t286.length : Int) then (some (t323 == t300)) else (some false)) else (some false)) else (some false)) else (some false)) else (some false)) else (some false)) else (some false)) else (some false)) else (some false)) = some r := H
                          have A50 := Aside0.mk A500
                          clear A500
                          by_cases c51 : t299 = 0
                          · rw [if_pos c51] at H
                            have c51b0 : (t299 == 0) = true := beq_iff_eq.mpr c51
                            have c51b1 : (t299 != 0) = false := bne_eq_false_iff_eq.mpr c51
                            clear c51
                            by_cases c52 : t301 = 0
                            · rw [if_pos c52] at H
                              have c52b0 : (t301 == 0) = true := beq_iff_eq.mpr c52
                              have c52b1 : (t301 != 0) = false := bne_eq_false_iff_eq.mpr c52
                              clear c52
                              by_cases c53 : t313 = 0
                              · rw [if_pos c53] at H
                                have c53b0 : (t313 == 0) = true := beq_iff_eq.mpr c53
                                have c53b1 : (t313 != 0) = false := bne_eq_false_iff_eq.mpr c53
                                clear c53
                                by_cases c54 : t324 = 0
                                · rw [if_pos c54] at H
                                  have c54b0 : (t324 == 0) = true := beq_iff_eq.mpr c54
                                  have c54b1 : (t324 != 0) = false := bne_eq_false_iff_eq.mpr c54
                                  clear c54
                                  by_cases c55 : t298 = 0
                                  · rw [if_pos c55] at H
                                    have c55b0 : (t298 == 0) = true := beq_iff_eq.mpr c55
                                    have c55b1 : (t298 != 0) = false := bne_eq_false_iff_eq.mpr c55
                                    clear c55
                                    by_cases c56 : t312 ≥ t300
                                    · rw [if_pos c56] at H
                                      have c56b0 : decide (t300 ≤ t312) = true := decide_eq_true c56
                                      clear c56
                                      by_cases c57 : t312 ≤ (wrap64 (t300 + 1))
                                      · rw [if_pos c57] at H
                                        have c57b0 : decide (t312 ≤ (wrap64 (t300 + 1))) = true := decide_eq_true c57
                                        clear c57
                                        by_cases c58 : t300 ≥ x21_1
                                        · rw [if_pos c58] at H
                                          have c58b0 : decide (x21_1 ≤ t300) = true := decide_eq_true c58
                                          clear c58
                                          by_cases c59 : t300 ≤ (t286.length : Int)
                                          · rw [if_pos c59] at H
                                            have c59b0 : decide (t300 ≤ (t286.length : Int)) = true := decide_eq_true c59
                                            clear c59
                                            obtain rfl := Option.some.inj H
                                            obtain ⟨Ao60, co60, eo60⟩ := Kd.R_slice HO_22.out
                                            subst eo60
                                            obtain ⟨Ao61, co61, eo61⟩ := Kd.R_slice HO_23.out
                                            subst eo61
                                            go_wp2_with (first | ((with_reducible refine gate_callee (f := 21) rfl ?_); refine goesL_ (some 120) rfl rfl Try.func21 (by kernel_rfl) rfl #[.slice Ao60 x22_1.length co60, .slice Ao61 x23_2.length co61] rfl (by (try simp only [List.map_toArray, List.map_cons, List.map_nil]); first | done | rfl | (simp only [List.length_drop, List.length_take]; rfl)) ?_; (with_reducible refine (fingerprint_Cost.calls k2 _ _ x22_1 _ _ x23_2 t323 t324 _ ?side1 ?side2 ?side3 ?side4 A50.out).mono ?_); (case side1 => repeat (first | exact (Kd.R_reads' HO_22.out).2.2 | (with_reducible refine Kd.C_alloc ?_ _) | (with_reducible refine Kd.C_drewN ?_ _) | (with_reducible refine Kd.C_drew ?_))); (case side2 => exact (Kd.R_reads' HO_22.out).2.1); (case side3 => repeat (first | exact (Kd.R_reads' HO_23.out).2.2 | (with_reducible refine Kd.C_alloc ?_ _) | (with_reducible refine Kd.C_drewN ?_ _) | (with_reducible refine Kd.C_drew ?_))); (case side4 => exact (Kd.R_reads' HO_23.out).2.1); rintro e w62 ⟨rfl, hb⟩; refine ⟨_, rfl, ?_⟩; have n0_ := Aside0.mk (Kd.R_below (by (with_reducible repeat (first | apply Kd.R_alloc | apply Kd.R_drewN | apply Kd.R_drew)); exact HO_12.out) hb); have n1_ := Aside0.mk (Kd.R_below (by (with_reducible repeat (first | apply Kd.R_alloc | apply Kd.R_drewN | apply Kd.R_drew)); exact HO_13.out) hb); have n2_ := Aside0.mk (Kd.R_below (by (with_reducible repeat (first | apply Kd.R_alloc | apply Kd.R_drewN | apply Kd.R_drew)); exact HO_22.out) hb); have n3_ := Aside0.mk (Kd.R_below (by (with_reducible repeat (first | apply Kd.R_alloc | apply Kd.R_drewN | apply Kd.R_drew)); exact HO_23.out) hb); have n4_ := Aside0.mk (below_step (by repeat (first | (with_reducible first | exact HB.out | apply below_alloc | apply pw_below_drewN | apply below_drew1) | exact HB.out)) hb); clear HO_12; clear HO_13; clear HO_22; clear HO_23; clear HB; have HO_12 := n0_; have HO_13 := n1_; have HO_22 := n2_; have HO_23 := n3_; have HB := n4_; clear n0_ n1_ n2_ n3_ n4_; (try clear hb); (try clear hb2); (try clear hk); (try clear hi)))
                                            go_ret
                                            exact ⟨by first | rfl | (simp [errW_none, errW_some] <;> rfl) | (simp [*, errW_none, errW_some] <;> rfl), by repeat (first | (with_reducible first | exact HB.out | apply below_alloc | apply pw_below_drewN | apply below_drew1) | exact HB.out)⟩
                                          · rw [if_neg c59] at H
                                            have c59b0 : decide (t300 ≤ (t286.length : Int)) = false := decide_eq_false c59
                                            clear c59
                                            obtain rfl := Option.some.inj H
                                            obtain ⟨Ao63, co63, eo63⟩ := Kd.R_slice HO_22.out
                                            subst eo63
                                            obtain ⟨Ao64, co64, eo64⟩ := Kd.R_slice HO_23.out
                                            subst eo64
                                            go_wp2_with (first | ((with_reducible refine gate_callee (f := 21) rfl ?_); refine goesL_ (some 120) rfl rfl Try.func21 (by kernel_rfl) rfl #[.slice Ao63 x22_1.length co63, .slice Ao64 x23_2.length co64] rfl (by (try simp only [List.map_toArray, List.map_cons, List.map_nil]); first | done | rfl | (simp only [List.length_drop, List.length_take]; rfl)) ?_; (with_reducible refine (fingerprint_Cost.calls k2 _ _ x22_1 _ _ x23_2 t323 t324 _ ?side1 ?side2 ?side3 ?side4 A50.out).mono ?_); (case side1 => repeat (first | exact (Kd.R_reads' HO_22.out).2.2 | (with_reducible refine Kd.C_alloc ?_ _) | (with_reducible refine Kd.C_drewN ?_ _) | (with_reducible refine Kd.C_drew ?_))); (case side2 => exact (Kd.R_reads' HO_22.out).2.1); (case side3 => repeat (first | exact (Kd.R_reads' HO_23.out).2.2 | (with_reducible refine Kd.C_alloc ?_ _) | (with_reducible refine Kd.C_drewN ?_ _) | (with_reducible refine Kd.C_drew ?_))); (case side4 => exact (Kd.R_reads' HO_23.out).2.1); rintro e w65 ⟨rfl, hb⟩; refine ⟨_, rfl, ?_⟩; have n0_ := Aside0.mk (Kd.R_below (by (with_reducible repeat (first | apply Kd.R_alloc | apply Kd.R_drewN | apply Kd.R_drew)); exact HO_12.out) hb); have n1_ := Aside0.mk (Kd.R_below (by (with_reducible repeat (first | apply Kd.R_alloc | apply Kd.R_drewN | apply Kd.R_drew)); exact HO_13.out) hb); have n2_ := Aside0.mk (Kd.R_below (by (with_reducible repeat (first | apply Kd.R_alloc | apply Kd.R_drewN | apply Kd.R_drew)); exact HO_22.out) hb); have n3_ := Aside0.mk (Kd.R_below (by (with_reducible repeat (first | apply Kd.R_alloc | apply Kd.R_drewN | apply Kd.R_drew)); exact HO_23.out) hb); have n4_ := Aside0.mk (below_step (by repeat (first | (with_reducible first | exact HB.out | apply below_alloc | apply pw_below_drewN | apply below_drew1) | exact HB.out)) hb); clear HO_12; clear HO_13; clear HO_22; clear HO_23; clear HB; have HO_12 := n0_; have HO_13 := n1_; have HO_22 := n2_; have HO_23 := n3_; have HB := n4_; clear n0_ n1_ n2_ n3_ n4_; (try clear hb); (try clear hb2); (try clear hk); (try clear hi)))
                                            go_ret
                                            exact ⟨by first | rfl | (simp [errW_none, errW_some] <;> rfl) | (simp [*, errW_none, errW_some] <;> rfl), by repeat (first | (with_reducible first | exact HB.out | apply below_alloc | apply pw_below_drewN | apply below_drew1) | exact HB.out)⟩
                                        · rw [if_neg c58] at H
                                          have c58b0 : decide (x21_1 ≤ t300) = false := decide_eq_false c58
                                          clear c58
                                          obtain rfl := Option.some.inj H
                                          obtain ⟨Ao66, co66, eo66⟩ := Kd.R_slice HO_22.out
                                          subst eo66
                                          obtain ⟨Ao67, co67, eo67⟩ := Kd.R_slice HO_23.out
                                          subst eo67
                                          go_wp2_with (first | ((with_reducible refine gate_callee (f := 21) rfl ?_); refine goesL_ (some 120) rfl rfl Try.func21 (by kernel_rfl) rfl #[.slice Ao66 x22_1.length co66, .slice Ao67 x23_2.length co67] rfl (by (try simp only [List.map_toArray, List.map_cons, List.map_nil]); first | done | rfl | (simp only [List.length_drop, List.length_take]; rfl)) ?_; (with_reducible refine (fingerprint_Cost.calls k2 _ _ x22_1 _ _ x23_2 t323 t324 _ ?side1 ?side2 ?side3 ?side4 A50.out).mono ?_); (case side1 => repeat (first | exact (Kd.R_reads' HO_22.out).2.2 | (with_reducible refine Kd.C_alloc ?_ _) | (with_reducible refine Kd.C_drewN ?_ _) | (with_reducible refine Kd.C_drew ?_))); (case side2 => exact (Kd.R_reads' HO_22.out).2.1); (case side3 => repeat (first | exact (Kd.R_reads' HO_23.out).2.2 | (with_reducible refine Kd.C_alloc ?_ _) | (with_reducible refine Kd.C_drewN ?_ _) | (with_reducible refine Kd.C_drew ?_))); (case side4 => exact (Kd.R_reads' HO_23.out).2.1); rintro e w68 ⟨rfl, hb⟩; refine ⟨_, rfl, ?_⟩; have n0_ := Aside0.mk (Kd.R_below (by (with_reducible repeat (first | apply Kd.R_alloc | apply Kd.R_drewN | apply Kd.R_drew)); exact HO_12.out) hb); have n1_ := Aside0.mk (Kd.R_below (by (with_reducible repeat (first | apply Kd.R_alloc | apply Kd.R_drewN | apply Kd.R_drew)); exact HO_13.out) hb); have n2_ := Aside0.mk (Kd.R_below (by (with_reducible repeat (first | apply Kd.R_alloc | apply Kd.R_drewN | apply Kd.R_drew)); exact HO_22.out) hb); have n3_ := Aside0.mk (Kd.R_below (by (with_reducible repeat (first | apply Kd.R_alloc | apply Kd.R_drewN | apply Kd.R_drew)); exact HO_23.out) hb); have n4_ := Aside0.mk (below_step (by repeat (first | (with_reducible first | exact HB.out | apply below_alloc | apply pw_below_drewN | apply below_drew1) | exact HB.out)) hb); clear HO_12; clear HO_13; clear HO_22; clear HO_23; clear HB; have HO_12 := n0_; have HO_13 := n1_; have HO_22 := n2_; have HO_23 := n3_; have HB := n4_; clear n0_ n1_ n2_ n3_ n4_; (try clear hb); (try clear hb2); (try clear hk); (try clear hi)))
                                          go_ret
                                          exact ⟨by first | rfl | (simp [errW_none, errW_some] <;> rfl) | (simp [*, errW_none, errW_some] <;> rfl), by repeat (first | (with_reducible first | exact HB.out | apply below_alloc | apply pw_below_drewN | apply below_drew1) | exact HB.out)⟩
                                      · rw [if_neg c57] at H
                                        have c57b0 : decide (t312 ≤ (wrap64 (t300 + 1))) = false := decide_eq_false c57
                                        clear c57
                                        obtain rfl := Option.some.inj H
                                        obtain ⟨Ao69, co69, eo69⟩ := Kd.R_slice HO_22.out
                                        subst eo69
                                        obtain ⟨Ao70, co70, eo70⟩ := Kd.R_slice HO_23.out
                                        subst eo70
                                        go_wp2_with (first | ((with_reducible refine gate_callee (f := 21) rfl ?_); refine goesL_ (some 120) rfl rfl Try.func21 (by kernel_rfl) rfl #[.slice Ao69 x22_1.length co69, .slice Ao70 x23_2.length co70] rfl (by (try simp only [List.map_toArray, List.map_cons, List.map_nil]); first | done | rfl | (simp only [List.length_drop, List.length_take]; rfl)) ?_; (with_reducible refine (fingerprint_Cost.calls k2 _ _ x22_1 _ _ x23_2 t323 t324 _ ?side1 ?side2 ?side3 ?side4 A50.out).mono ?_); (case side1 => repeat (first | exact (Kd.R_reads' HO_22.out).2.2 | (with_reducible refine Kd.C_alloc ?_ _) | (with_reducible refine Kd.C_drewN ?_ _) | (with_reducible refine Kd.C_drew ?_))); (case side2 => exact (Kd.R_reads' HO_22.out).2.1); (case side3 => repeat (first | exact (Kd.R_reads' HO_23.out).2.2 | (with_reducible refine Kd.C_alloc ?_ _) | (with_reducible refine Kd.C_drewN ?_ _) | (with_reducible refine Kd.C_drew ?_))); (case side4 => exact (Kd.R_reads' HO_23.out).2.1); rintro e w71 ⟨rfl, hb⟩; refine ⟨_, rfl, ?_⟩; have n0_ := Aside0.mk (Kd.R_below (by (with_reducible repeat (first | apply Kd.R_alloc | apply Kd.R_drewN | apply Kd.R_drew)); exact HO_12.out) hb); have n1_ := Aside0.mk (Kd.R_below (by (with_reducible repeat (first | apply Kd.R_alloc | apply Kd.R_drewN | apply Kd.R_drew)); exact HO_13.out) hb); have n2_ := Aside0.mk (Kd.R_below (by (with_reducible repeat (first | apply Kd.R_alloc | apply Kd.R_drewN | apply Kd.R_drew)); exact HO_22.out) hb); have n3_ := Aside0.mk (Kd.R_below (by (with_reducible repeat (first | apply Kd.R_alloc | apply Kd.R_drewN | apply Kd.R_drew)); exact HO_23.out) hb); have n4_ := Aside0.mk (below_step (by repeat (first | (with_reducible first | exact HB.out | apply below_alloc | apply pw_below_drewN | apply below_drew1) | exact HB.out)) hb); clear HO_12; clear HO_13; clear HO_22; clear HO_23; clear HB; have HO_12 := n0_; have HO_13 := n1_; have HO_22 := n2_; have HO_23 := n3_; have HB := n4_; clear n0_ n1_ n2_ n3_ n4_; (try clear hb); (try clear hb2); (try clear hk); (try clear hi)))
                                        go_ret
                                        exact ⟨by first | rfl | (simp [errW_none, errW_some] <;> rfl) | (simp [*, errW_none, errW_some] <;> rfl), by repeat (first | (with_reducible first | exact HB.out | apply below_alloc | apply pw_below_drewN | apply below_drew1) | exact HB.out)⟩
                                    · rw [if_neg c56] at H
                                      have c56b0 : decide (t300 ≤ t312) = false := decide_eq_false c56
                                      clear c56
                                      obtain rfl := Option.some.inj H
                                      obtain ⟨Ao72, co72, eo72⟩ := Kd.R_slice HO_22.out
                                      subst eo72
                                      obtain ⟨Ao73, co73, eo73⟩ := Kd.R_slice HO_23.out
                                      subst eo73
                                      go_wp2_with (first | ((with_reducible refine gate_callee (f := 21) rfl ?_); refine goesL_ (some 120) rfl rfl Try.func21 (by kernel_rfl) rfl #[.slice Ao72 x22_1.length co72, .slice Ao73 x23_2.length co73] rfl (by (try simp only [List.map_toArray, List.map_cons, List.map_nil]); first | done | rfl | (simp only [List.length_drop, List.length_take]; rfl)) ?_; (with_reducible refine (fingerprint_Cost.calls k2 _ _ x22_1 _ _ x23_2 t323 t324 _ ?side1 ?side2 ?side3 ?side4 A50.out).mono ?_); (case side1 => repeat (first | exact (Kd.R_reads' HO_22.out).2.2 | (with_reducible refine Kd.C_alloc ?_ _) | (with_reducible refine Kd.C_drewN ?_ _) | (with_reducible refine Kd.C_drew ?_))); (case side2 => exact (Kd.R_reads' HO_22.out).2.1); (case side3 => repeat (first | exact (Kd.R_reads' HO_23.out).2.2 | (with_reducible refine Kd.C_alloc ?_ _) | (with_reducible refine Kd.C_drewN ?_ _) | (with_reducible refine Kd.C_drew ?_))); (case side4 => exact (Kd.R_reads' HO_23.out).2.1); rintro e w74 ⟨rfl, hb⟩; refine ⟨_, rfl, ?_⟩; have n0_ := Aside0.mk (Kd.R_below (by (with_reducible repeat (first | apply Kd.R_alloc | apply Kd.R_drewN | apply Kd.R_drew)); exact HO_12.out) hb); have n1_ := Aside0.mk (Kd.R_below (by (with_reducible repeat (first | apply Kd.R_alloc | apply Kd.R_drewN | apply Kd.R_drew)); exact HO_13.out) hb); have n2_ := Aside0.mk (Kd.R_below (by (with_reducible repeat (first | apply Kd.R_alloc | apply Kd.R_drewN | apply Kd.R_drew)); exact HO_22.out) hb); have n3_ := Aside0.mk (Kd.R_below (by (with_reducible repeat (first | apply Kd.R_alloc | apply Kd.R_drewN | apply Kd.R_drew)); exact HO_23.out) hb); have n4_ := Aside0.mk (below_step (by repeat (first | (with_reducible first | exact HB.out | apply below_alloc | apply pw_below_drewN | apply below_drew1) | exact HB.out)) hb); clear HO_12; clear HO_13; clear HO_22; clear HO_23; clear HB; have HO_12 := n0_; have HO_13 := n1_; have HO_22 := n2_; have HO_23 := n3_; have HB := n4_; clear n0_ n1_ n2_ n3_ n4_; (try clear hb); (try clear hb2); (try clear hk); (try clear hi)))
                                      go_ret
                                      exact ⟨by first | rfl | (simp [errW_none, errW_some] <;> rfl) | (simp [*, errW_none, errW_some] <;> rfl), by repeat (first | (with_reducible first | exact HB.out | apply below_alloc | apply pw_below_drewN | apply below_drew1) | exact HB.out)⟩
                                  · rw [if_neg c55] at H
                                    have c55b0 : (t298 == 0) = false := beq_eq_false_iff_ne.mpr c55
                                    have c55b1 : (t298 != 0) = true := bne_iff_ne.mpr c55
                                    obtain rfl := Option.some.inj H
                                    obtain ⟨Ao75, co75, eo75⟩ := Kd.R_slice HO_22.out
                                    subst eo75
                                    obtain ⟨Ao76, co76, eo76⟩ := Kd.R_slice HO_23.out
                                    subst eo76
                                    go_wp2_with (first | ((with_reducible refine gate_callee (f := 21) rfl ?_); refine goesL_ (some 120) rfl rfl Try.func21 (by kernel_rfl) rfl #[.slice Ao75 x22_1.length co75, .slice Ao76 x23_2.length co76] rfl (by (try simp only [List.map_toArray, List.map_cons, List.map_nil]); first | done | rfl | (simp only [List.length_drop, List.length_take]; rfl)) ?_; (with_reducible refine (fingerprint_Cost.calls k2 _ _ x22_1 _ _ x23_2 t323 t324 _ ?side1 ?side2 ?side3 ?side4 A50.out).mono ?_); (case side1 => repeat (first | exact (Kd.R_reads' HO_22.out).2.2 | (with_reducible refine Kd.C_alloc ?_ _) | (with_reducible refine Kd.C_drewN ?_ _) | (with_reducible refine Kd.C_drew ?_))); (case side2 => exact (Kd.R_reads' HO_22.out).2.1); (case side3 => repeat (first | exact (Kd.R_reads' HO_23.out).2.2 | (with_reducible refine Kd.C_alloc ?_ _) | (with_reducible refine Kd.C_drewN ?_ _) | (with_reducible refine Kd.C_drew ?_))); (case side4 => exact (Kd.R_reads' HO_23.out).2.1); rintro e w77 ⟨rfl, hb⟩; refine ⟨_, rfl, ?_⟩; have n0_ := Aside0.mk (Kd.R_below (by (with_reducible repeat (first | apply Kd.R_alloc | apply Kd.R_drewN | apply Kd.R_drew)); exact HO_12.out) hb); have n1_ := Aside0.mk (Kd.R_below (by (with_reducible repeat (first | apply Kd.R_alloc | apply Kd.R_drewN | apply Kd.R_drew)); exact HO_13.out) hb); have n2_ := Aside0.mk (Kd.R_below (by (with_reducible repeat (first | apply Kd.R_alloc | apply Kd.R_drewN | apply Kd.R_drew)); exact HO_22.out) hb); have n3_ := Aside0.mk (Kd.R_below (by (with_reducible repeat (first | apply Kd.R_alloc | apply Kd.R_drewN | apply Kd.R_drew)); exact HO_23.out) hb); have n4_ := Aside0.mk (below_step (by repeat (first | (with_reducible first | exact HB.out | apply below_alloc | apply pw_below_drewN | apply below_drew1) | exact HB.out)) hb); clear HO_12; clear HO_13; clear HO_22; clear HO_23; clear HB; have HO_12 := n0_; have HO_13 := n1_; have HO_22 := n2_; have HO_23 := n3_; have HB := n4_; clear n0_ n1_ n2_ n3_ n4_; (try clear hb); (try clear hb2); (try clear hk); (try clear hi)))
                                    go_ret
                                    exact ⟨by first | rfl | (simp [errW_none, errW_some] <;> rfl) | (simp [*, errW_none, errW_some] <;> rfl), by repeat (first | (with_reducible first | exact HB.out | apply below_alloc | apply pw_below_drewN | apply below_drew1) | exact HB.out)⟩
                                · rw [if_neg c54] at H
                                  have c54b0 : (t324 == 0) = false := beq_eq_false_iff_ne.mpr c54
                                  have c54b1 : (t324 != 0) = true := bne_iff_ne.mpr c54
                                  obtain rfl := Option.some.inj H
                                  obtain ⟨Ao78, co78, eo78⟩ := Kd.R_slice HO_22.out
                                  subst eo78
                                  obtain ⟨Ao79, co79, eo79⟩ := Kd.R_slice HO_23.out
                                  subst eo79
                                  go_wp2_with (first | ((with_reducible refine gate_callee (f := 21) rfl ?_); refine goesL_ (some 120) rfl rfl Try.func21 (by kernel_rfl) rfl #[.slice Ao78 x22_1.length co78, .slice Ao79 x23_2.length co79] rfl (by (try simp only [List.map_toArray, List.map_cons, List.map_nil]); first | done | rfl | (simp only [List.length_drop, List.length_take]; rfl)) ?_; (with_reducible refine (fingerprint_Cost.calls k2 _ _ x22_1 _ _ x23_2 t323 t324 _ ?side1 ?side2 ?side3 ?side4 A50.out).mono ?_); (case side1 => repeat (first | exact (Kd.R_reads' HO_22.out).2.2 | (with_reducible refine Kd.C_alloc ?_ _) | (with_reducible refine Kd.C_drewN ?_ _) | (with_reducible refine Kd.C_drew ?_))); (case side2 => exact (Kd.R_reads' HO_22.out).2.1); (case side3 => repeat (first | exact (Kd.R_reads' HO_23.out).2.2 | (with_reducible refine Kd.C_alloc ?_ _) | (with_reducible refine Kd.C_drewN ?_ _) | (with_reducible refine Kd.C_drew ?_))); (case side4 => exact (Kd.R_reads' HO_23.out).2.1); rintro e w80 ⟨rfl, hb⟩; refine ⟨_, rfl, ?_⟩; have n0_ := Aside0.mk (Kd.R_below (by (with_reducible repeat (first | apply Kd.R_alloc | apply Kd.R_drewN | apply Kd.R_drew)); exact HO_12.out) hb); have n1_ := Aside0.mk (Kd.R_below (by (with_reducible repeat (first | apply Kd.R_alloc | apply Kd.R_drewN | apply Kd.R_drew)); exact HO_13.out) hb); have n2_ := Aside0.mk (Kd.R_below (by (with_reducible repeat (first | apply Kd.R_alloc | apply Kd.R_drewN | apply Kd.R_drew)); exact HO_22.out) hb); have n3_ := Aside0.mk (Kd.R_below (by (with_reducible repeat (first | apply Kd.R_alloc | apply Kd.R_drewN | apply Kd.R_drew)); exact HO_23.out) hb); have n4_ := Aside0.mk (below_step (by repeat (first | (with_reducible first | exact HB.out | apply below_alloc | apply pw_below_drewN | apply below_drew1) | exact HB.out)) hb); clear HO_12; clear HO_13; clear HO_22; clear HO_23; clear HB; have HO_12 := n0_; have HO_13 := n1_; have HO_22 := n2_; have HO_23 := n3_; have HB := n4_; clear n0_ n1_ n2_ n3_ n4_; (try clear hb); (try clear hb2); (try clear hk); (try clear hi)))
                                  go_ret
                                  exact ⟨by first | rfl | (simp [errW_none, errW_some] <;> rfl) | (simp [*, errW_none, errW_some] <;> rfl), by repeat (first | (with_reducible first | exact HB.out | apply below_alloc | apply pw_below_drewN | apply below_drew1) | exact HB.out)⟩
                              · rw [if_neg c53] at H
                                have c53b0 : (t313 == 0) = false := beq_eq_false_iff_ne.mpr c53
                                have c53b1 : (t313 != 0) = true := bne_iff_ne.mpr c53
                                obtain rfl := Option.some.inj H
                                obtain ⟨Ao81, co81, eo81⟩ := Kd.R_slice HO_22.out
                                subst eo81
                                obtain ⟨Ao82, co82, eo82⟩ := Kd.R_slice HO_23.out
                                subst eo82
                                go_wp2_with (first | ((with_reducible refine gate_callee (f := 21) rfl ?_); refine goesL_ (some 120) rfl rfl Try.func21 (by kernel_rfl) rfl #[.slice Ao81 x22_1.length co81, .slice Ao82 x23_2.length co82] rfl (by (try simp only [List.map_toArray, List.map_cons, List.map_nil]); first | done | rfl | (simp only [List.length_drop, List.length_take]; rfl)) ?_; (with_reducible refine (fingerprint_Cost.calls k2 _ _ x22_1 _ _ x23_2 t323 t324 _ ?side1 ?side2 ?side3 ?side4 A50.out).mono ?_); (case side1 => repeat (first | exact (Kd.R_reads' HO_22.out).2.2 | (with_reducible refine Kd.C_alloc ?_ _) | (with_reducible refine Kd.C_drewN ?_ _) | (with_reducible refine Kd.C_drew ?_))); (case side2 => exact (Kd.R_reads' HO_22.out).2.1); (case side3 => repeat (first | exact (Kd.R_reads' HO_23.out).2.2 | (with_reducible refine Kd.C_alloc ?_ _) | (with_reducible refine Kd.C_drewN ?_ _) | (with_reducible refine Kd.C_drew ?_))); (case side4 => exact (Kd.R_reads' HO_23.out).2.1); rintro e w83 ⟨rfl, hb⟩; refine ⟨_, rfl, ?_⟩; have n0_ := Aside0.mk (Kd.R_below (by (with_reducible repeat (first | apply Kd.R_alloc | apply Kd.R_drewN | apply Kd.R_drew)); exact HO_12.out) hb); have n1_ := Aside0.mk (Kd.R_below (by (with_reducible repeat (first | apply Kd.R_alloc | apply Kd.R_drewN | apply Kd.R_drew)); exact HO_13.out) hb); have n2_ := Aside0.mk (Kd.R_below (by (with_reducible repeat (first | apply Kd.R_alloc | apply Kd.R_drewN | apply Kd.R_drew)); exact HO_22.out) hb); have n3_ := Aside0.mk (Kd.R_below (by (with_reducible repeat (first | apply Kd.R_alloc | apply Kd.R_drewN | apply Kd.R_drew)); exact HO_23.out) hb); have n4_ := Aside0.mk (below_step (by repeat (first | (with_reducible first | exact HB.out | apply below_alloc | apply pw_below_drewN | apply below_drew1) | exact HB.out)) hb); clear HO_12; clear HO_13; clear HO_22; clear HO_23; clear HB; have HO_12 := n0_; have HO_13 := n1_; have HO_22 := n2_; have HO_23 := n3_; have HB := n4_; clear n0_ n1_ n2_ n3_ n4_; (try clear hb); (try clear hb2); (try clear hk); (try clear hi)))
                                go_ret
                                exact ⟨by first | rfl | (simp [errW_none, errW_some] <;> rfl) | (simp [*, errW_none, errW_some] <;> rfl), by repeat (first | (with_reducible first | exact HB.out | apply below_alloc | apply pw_below_drewN | apply below_drew1) | exact HB.out)⟩
                            · rw [if_neg c52] at H
                              have c52b0 : (t301 == 0) = false := beq_eq_false_iff_ne.mpr c52
                              have c52b1 : (t301 != 0) = true := bne_iff_ne.mpr c52
                              obtain rfl := Option.some.inj H
                              obtain ⟨Ao84, co84, eo84⟩ := Kd.R_slice HO_22.out
                              subst eo84
                              obtain ⟨Ao85, co85, eo85⟩ := Kd.R_slice HO_23.out
                              subst eo85
                              go_wp2_with (first | ((with_reducible refine gate_callee (f := 21) rfl ?_); refine goesL_ (some 120) rfl rfl Try.func21 (by kernel_rfl) rfl #[.slice Ao84 x22_1.length co84, .slice Ao85 x23_2.length co85] rfl (by (try simp only [List.map_toArray, List.map_cons, List.map_nil]); first | done | rfl | (simp only [List.length_drop, List.length_take]; rfl)) ?_; (with_reducible refine (fingerprint_Cost.calls k2 _ _ x22_1 _ _ x23_2 t323 t324 _ ?side1 ?side2 ?side3 ?side4 A50.out).mono ?_); (case side1 => repeat (first | exact (Kd.R_reads' HO_22.out).2.2 | (with_reducible refine Kd.C_alloc ?_ _) | (with_reducible refine Kd.C_drewN ?_ _) | (with_reducible refine Kd.C_drew ?_))); (case side2 => exact (Kd.R_reads' HO_22.out).2.1); (case side3 => repeat (first | exact (Kd.R_reads' HO_23.out).2.2 | (with_reducible refine Kd.C_alloc ?_ _) | (with_reducible refine Kd.C_drewN ?_ _) | (with_reducible refine Kd.C_drew ?_))); (case side4 => exact (Kd.R_reads' HO_23.out).2.1); rintro e w86 ⟨rfl, hb⟩; refine ⟨_, rfl, ?_⟩; have n0_ := Aside0.mk (Kd.R_below (by (with_reducible repeat (first | apply Kd.R_alloc | apply Kd.R_drewN | apply Kd.R_drew)); exact HO_12.out) hb); have n1_ := Aside0.mk (Kd.R_below (by (with_reducible repeat (first | apply Kd.R_alloc | apply Kd.R_drewN | apply Kd.R_drew)); exact HO_13.out) hb); have n2_ := Aside0.mk (Kd.R_below (by (with_reducible repeat (first | apply Kd.R_alloc | apply Kd.R_drewN | apply Kd.R_drew)); exact HO_22.out) hb); have n3_ := Aside0.mk (Kd.R_below (by (with_reducible repeat (first | apply Kd.R_alloc | apply Kd.R_drewN | apply Kd.R_drew)); exact HO_23.out) hb); have n4_ := Aside0.mk (below_step (by repeat (first | (with_reducible first | exact HB.out | apply below_alloc | apply pw_below_drewN | apply below_drew1) | exact HB.out)) hb); clear HO_12; clear HO_13; clear HO_22; clear HO_23; clear HB; have HO_12 := n0_; have HO_13 := n1_; have HO_22 := n2_; have HO_23 := n3_; have HB := n4_; clear n0_ n1_ n2_ n3_ n4_; (try clear hb); (try clear hb2); (try clear hk); (try clear hi)))
                              go_ret
                              exact ⟨by first | rfl | (simp [errW_none, errW_some] <;> rfl) | (simp [*, errW_none, errW_some] <;> rfl), by repeat (first | (with_reducible first | exact HB.out | apply below_alloc | apply pw_below_drewN | apply below_drew1) | exact HB.out)⟩
                          · rw [if_neg c51] at H
                            have c51b0 : (t299 == 0) = false := beq_eq_false_iff_ne.mpr c51
                            have c51b1 : (t299 != 0) = true := bne_iff_ne.mpr c51
                            obtain rfl := Option.some.inj H
                            obtain ⟨Ao87, co87, eo87⟩ := Kd.R_slice HO_22.out
                            subst eo87
                            obtain ⟨Ao88, co88, eo88⟩ := Kd.R_slice HO_23.out
                            subst eo88
                            go_wp2_with (first | ((with_reducible refine gate_callee (f := 21) rfl ?_); refine goesL_ (some 120) rfl rfl Try.func21 (by kernel_rfl) rfl #[.slice Ao87 x22_1.length co87, .slice Ao88 x23_2.length co88] rfl (by (try simp only [List.map_toArray, List.map_cons, List.map_nil]); first | done | rfl | (simp only [List.length_drop, List.length_take]; rfl)) ?_; (with_reducible refine (fingerprint_Cost.calls k2 _ _ x22_1 _ _ x23_2 t323 t324 _ ?side1 ?side2 ?side3 ?side4 A50.out).mono ?_); (case side1 => repeat (first | exact (Kd.R_reads' HO_22.out).2.2 | (with_reducible refine Kd.C_alloc ?_ _) | (with_reducible refine Kd.C_drewN ?_ _) | (with_reducible refine Kd.C_drew ?_))); (case side2 => exact (Kd.R_reads' HO_22.out).2.1); (case side3 => repeat (first | exact (Kd.R_reads' HO_23.out).2.2 | (with_reducible refine Kd.C_alloc ?_ _) | (with_reducible refine Kd.C_drewN ?_ _) | (with_reducible refine Kd.C_drew ?_))); (case side4 => exact (Kd.R_reads' HO_23.out).2.1); rintro e w89 ⟨rfl, hb⟩; refine ⟨_, rfl, ?_⟩; have n0_ := Aside0.mk (Kd.R_below (by (with_reducible repeat (first | apply Kd.R_alloc | apply Kd.R_drewN | apply Kd.R_drew)); exact HO_12.out) hb); have n1_ := Aside0.mk (Kd.R_below (by (with_reducible repeat (first | apply Kd.R_alloc | apply Kd.R_drewN | apply Kd.R_drew)); exact HO_13.out) hb); have n2_ := Aside0.mk (Kd.R_below (by (with_reducible repeat (first | apply Kd.R_alloc | apply Kd.R_drewN | apply Kd.R_drew)); exact HO_22.out) hb); have n3_ := Aside0.mk (Kd.R_below (by (with_reducible repeat (first | apply Kd.R_alloc | apply Kd.R_drewN | apply Kd.R_drew)); exact HO_23.out) hb); have n4_ := Aside0.mk (below_step (by repeat (first | (with_reducible first | exact HB.out | apply below_alloc | apply pw_below_drewN | apply below_drew1) | exact HB.out)) hb); clear HO_12; clear HO_13; clear HO_22; clear HO_23; clear HB; have HO_12 := n0_; have HO_13 := n1_; have HO_22 := n2_; have HO_23 := n3_; have HB := n4_; clear n0_ n1_ n2_ n3_ n4_; (try clear hb); (try clear hb2); (try clear hk); (try clear hi)))
                            go_ret
                            exact ⟨by first | rfl | (simp [errW_none, errW_some] <;> rfl) | (simp [*, errW_none, errW_some] <;> rfl), by repeat (first | (with_reducible first | exact HB.out | apply below_alloc | apply pw_below_drewN | apply below_drew1) | exact HB.out)⟩
            · rw [if_neg c19] at H
              exact absurd H (by simp)
          · rw [if_neg c17] at H
            exact absurd H (by simp)
        · rw [if_neg c14] at H
          exact absurd H (by simp)
      · rw [if_neg c13] at H
        exact absurd H (by simp)
    · rw [if_neg c12] at H
      exact absurd H (by simp)
  · replace c7 := Bool.eq_false_iff.mpr c7
    subst c7
    have H1 : (some false) = some r := by rw [if_neg (show ¬ (false = true) by decide)] at H; exact H
    exact absurd (Option.some.inj H1) (by rw [hr0.out]; exact Bool.false_ne_true)
/-- THE ONE PURE STATEMENT of airchecklaw36_FingerprintParts. -/
def airchecklaw36_FingerprintParts.Pure : Prop := ∀ (l0 : List Int) (l1 : List Int) (a2 : Int) (a3 : Int) (a4 : Int), (l0.length ≤ maxLen ∧ l0.length * 8 ≤ 140737488351232 ∧ ∀ x ∈ l0, (fun x => (Lit.int .i64 x).wf = true) x) → (l1.length ≤ maxLen ∧ l1.length * 8 ≤ 140737488351232 ∧ ∀ x ∈ l1, (fun x => (Lit.int .i64 x).wf = true) x) → (Lit.int .i64 a2).wf = true → (Lit.int .i64 a3).wf = true → (Lit.int .i64 a4).wf = true → ∃ k, airchecklaw36_FingerprintParts.f k l0 l1 a2 a3 a4 = some true
theorem airchecklaw36_FingerprintParts.walk : True := trivial

/-! ### aircheckref36_Made: function 14 -/
def aircheckref36_Made.l0 : Nat → List (List Int) → List (S34) → Int → Option ((List (S34)))
  | 0, _, _, _ => none
  | k + 1, x0, x3, x4 => if x4 < (x0.length : Int) then (if x4 < 3 then (if 0 ≤ x4 then ((aircheckref36_Codes.f k (rd_L1 x0 x4)).bind fun t332 => (if x3.length < 4398046511104 then (aircheckref36_Made.l0 k x0 (x3 ++ [(⟨wrap64 (2 + x4), t332⟩ : S34)]) (wrap64 (x4 + 1))) else (none))) else (none)) else (some x3)) else (some x3)
def aircheckref36_Made.f (k : Nat) (l0 : List (List Int)) : Option ((List (S34))) := aircheckref36_Made.l0 k l0 (([(⟨1, (([1, 2, 3, 4] : List Int))⟩ : S34)] : List (S34))) 0
theorem aircheckref36_Made.mono_l : ∀ k, (∀ y0 y1 y2, LeO (aircheckref36_Made.l0 k y0 y1 y2) (aircheckref36_Made.l0 (k + 1) y0 y1 y2))
  | 0 => fun _ _ _ r h => by simp [aircheckref36_Made.l0] at h
  | k + 1 => by
    have ih0 := aircheckref36_Made.mono_l k
    · intro y0 y1 y2
      unfold aircheckref36_Made.l0
      repeat' first
      | (with_reducible exact ih0 _ _ _)
      | (with_reducible exact aircheckref36_Codes.mono _ _)
      | (with_reducible exact LeO.refl _)
      | (with_reducible exact LeO.none _)
      | (with_reducible refine LeO.ite ?_ ?_)
      | (with_reducible refine LeO.bind ?_ (fun _ => ?_))
      | exact ih0 _ _ _
      | exact aircheckref36_Codes.mono _ _
      | exact LeO.none _
      | refine LeO.ite ?_ ?_
      | refine LeO.bind ?_ (fun _ => ?_)
theorem aircheckref36_Made.mono : ∀ a0 k, LeO (aircheckref36_Made.f k a0) (aircheckref36_Made.f (k + 1) a0) := by
  intro a0 k
  have ih0 := aircheckref36_Made.mono_l k
  unfold aircheckref36_Made.f
  repeat' first
      | (with_reducible exact ih0 _ _ _)
      | (with_reducible exact aircheckref36_Codes.mono _ _)
      | (with_reducible exact LeO.refl _)
      | (with_reducible exact LeO.none _)
      | (with_reducible refine LeO.ite ?_ ?_)
      | (with_reducible refine LeO.bind ?_ (fun _ => ?_))
      | exact ih0 _ _ _
      | exact aircheckref36_Codes.mono _ _
      | exact LeO.none _
      | refine LeO.ite ?_ ?_
      | refine LeO.bind ?_ (fun _ => ?_)
set_option maxHeartbeats 8000000 in
set_option maxRecDepth 100000 in
theorem aircheckref36_Made.calls (k : Nat) (A0 : Option Addr) (c0 : Nat) (l0 : List (List Int)) (r : List (S34)) (w : World) (hr0 : Kd.C (Kd.slice 3 (Kd.int .i64)) w A0 l0.length l0) (hc0 : l0.length ≤ c0) (h : aircheckref36_Made.f k l0 = some r) :
    Calls Try.prog 14 #[.slice A0 l0.length c0] w fun e w' => ∃ v0_ : Value, e = .returned (v0_) ∧ Kd.N k34 34 w' w.heap.size (fun k_ => (w.heap.size ≤ k_)) v0_ r ∧ Below w.heap.size w w' := by
  have hu34 := Try.underlying34
  have HR0 := Aside0.mk hr0
  have HC0 := Aside0.mk hc0
  clear hr0 hc0
  have HB := Aside0.mk (Below.refl w.heap.size w)
  have H : (aircheckref36_Made.l0 k l0 (([(⟨1, (([1, 2, 3, 4] : List Int))⟩ : S34)] : List (S34))) 0) = some r := h
  clear h
  obtain ⟨y325, hy325⟩ : ∃ y_ : List Int, y_ = (([1, 2, 3, 4] : List Int)) := ⟨_, rfl⟩
  replace H : (aircheckref36_Made.l0 k l0 (([(⟨1, y325⟩ : S34)] : List (S34))) 0) = some r := by first | (rw [hy325]; with_reducible exact H) | (have H2_ := (Option.bind_some _ _).symm.trans H; rw [hy325]; with_reducible exact H2_) | (have H2_ := (Option.bind_some _ _).symm.trans H; with_reducible exact H2_) | with_reducible exact H | (rw [hy325]; exact H) | exact H
  have Ny325 := Aside0.mk hy325
  clear hy325
  obtain ⟨y328, hy328⟩ : ∃ y_ : List (S34), y_ = (([(⟨1, y325⟩ : S34)] : List (S34))) := ⟨_, rfl⟩
  replace H : (aircheckref36_Made.l0 k l0 y328 0) = some r := by first | (rw [hy328]; with_reducible exact H) | (have H2_ := (Option.bind_some _ _).symm.trans H; rw [hy328]; with_reducible exact H2_) | (have H2_ := (Option.bind_some _ _).symm.trans H; with_reducible exact H2_) | with_reducible exact H | (rw [hy328]; exact H) | exact H
  have Ny328 := Aside0.mk hy328
  clear hy328
  have H' := Aside0.mk H
  clear H
  go_enter Try.func14, Try.ntmps14
  go_wp2_with (first | ((with_reducible refine gate_dst (N := 5) rfl ?_); refine Kd.R_lit (Kd.int .i64) _ 3 ?hg (N := 5) ?hd (xs := ([1, 2, 3, 4] : List Int)) (inner := [.int .i64 1, .int .i64 2, .int .i64 3, .int .i64 4]) (ok := fun _ => True) (okp := fun _ => True) ?hr ?hp (fun _ hk => hk) trivial (Below.refl _ _) (Nat.le_refl _) (by simp) ?_; (case hd => rfl); (case hg => rfl); (case hr => first | (go_simp; done) | (go_simp; rfl)); (case hp => exact (Reps.one (show Kd.M (Kd.int .i64) _ _ _ 1 [.int .i64 1] from rfl) (Reps.one (show Kd.M (Kd.int .i64) _ _ _ 2 [.int .i64 2] from rfl) (Reps.one (show Kd.M (Kd.int .i64) _ _ _ 3 [.int .i64 3] from rfl) (Reps.one (show Kd.M (Kd.int .i64) _ _ _ 4 [.int .i64 4] from rfl) (Reps.none _ _)))))); intro v326 w2 ho3 hb hg_ hnew_; clear hg_ hnew_; (first | rw [← Ny325.out] at ho3 | (simp only [Int.reduceToNat] at ho3; rw [← Ny325.out] at ho3)); have n0_ := Aside0.mk (Kd.R_lower (Kd.R_newM (M := fun k_ => (w.heap.size ≤ k_)) ho3 (below_size (by repeat (first | (with_reducible first | exact HB.out | apply below_alloc | apply pw_below_drewN | apply below_drew1) | exact HB.out))) (fun k_ h_ => h_)) (below_size (by repeat (first | (with_reducible first | exact HB.out | apply below_alloc | apply pw_below_drewN | apply below_drew1) | exact HB.out)))); have n1_ := Aside0.mk (below_step (by repeat (first | (with_reducible first | exact HB.out | apply below_alloc | apply pw_below_drewN | apply below_drew1) | exact HB.out)) hb); clear HB; have HO327 := n0_; have HB := n1_; clear n0_ n1_; clear hb ho3; obtain ⟨Ao4, co4, eo4⟩ := Kd.R_slice HO327.out; subst eo4) | ((with_reducible refine gate_dst (N := 7) rfl ?_); refine Kd.N_lit k34 _ 34 ?hg (N' := 7) ?hd (xs := ([(⟨1, y325⟩ : S34)] : List (S34))) (inner := [.int .i64 1, .slice Ao4 y325.length co4]) (ok := (fun k_ => (w.heap.size ≤ k_))) (okp := (fun k_ => (w.heap.size ≤ k_))) ?hr ?hp (fun _ hk => hk) ((show ∀ k_, w2.heap.size ≤ k_ → (fun k_ => (w.heap.size ≤ k_)) k_ from fun k_ hk => (Nat.le_trans (below_size (by repeat (first | (with_reducible first | exact HB.out | apply below_alloc | apply pw_below_drewN | apply below_drew1) | exact HB.out))) hk)) _ (Nat.le_refl _)) (Below.refl _ _) (Nat.le_refl _) (by simp) ?_; (case hd => rfl); (case hg => rfl); (case hr => first | (go_simp; done) | (go_simp; rfl)); (case hp => exact (Reps.c2 (show Kd.FK k34 _ _ (⟨1, y325⟩ : S34) [.int .i64 1, .slice Ao4 y325.length co4] from (k34_mkF _ _ (⟨1, y325⟩ : S34) (Kd.R_reads' (Kd.R_mono (ok' := (fun k_ => (w.heap.size ≤ k_))) (HO327.out) (fun k_ hk => hk.1))).2.1 (Kd.R_F (Kd.R_mono (ok' := (fun k_ => (w.heap.size ≤ k_))) (HO327.out) (fun k_ hk => hk.1))))) (Reps.none _ _))); intro v329 w5 ho6 hb hg_ hnew_; clear hg_ hnew_; (first | rw [← Ny328.out] at ho6 | (simp only [Int.reduceToNat] at ho6; rw [← Ny328.out] at ho6)); have n0_ := Aside0.mk (Kd.N_lower ho6 (below_size (by repeat (first | (with_reducible first | exact HB.out | apply below_alloc | apply pw_below_drewN | apply below_drew1) | exact HB.out)))); have n1_ := Aside0.mk (below_step (by repeat (first | (with_reducible first | exact HB.out | apply below_alloc | apply pw_below_drewN | apply below_drew1) | exact HB.out)) hb); clear HB; clear HO327; have HO330 := n0_; have HB := n1_; clear n0_ n1_; clear hb ho6))
  go_loopg [3, 4] k (fun kq v3 v4 w' => ∃ (x3_1 : List (S34)) (x4_1 : Int), v4 = .int .i64 x4_1 ∧ Aside0 (aircheckref36_Made.l0 kq l0 x3_1 x4_1 = some r) ∧ Aside0 (kq ≤ k) ∧ Aside0 (Kd.N k34 34 w' w.heap.size (fun k_ => (w.heap.size ≤ k_)) v3 x3_1) ∧ Aside0 (Below w.heap.size w w'))
  case atStart => exact ⟨(y328), (0), (by first | rfl | (simp; done) | (simp [*]; done)), H', ⟨Nat.le_refl _⟩, ⟨by (with_reducible repeat (first | apply Kd.N_alloc | apply Kd.N_drewN | apply Kd.N_drew)); exact HO330.out⟩, ⟨by repeat (first | (with_reducible first | exact HB.out | apply below_alloc | apply pw_below_drewN | apply below_drew1) | exact HB.out)⟩⟩
  case round =>
    clear H'
    try clear c1
    try clear c2
    try clear p2
    obtain ⟨x3_1, x4_1, rfl, HA, HK1, HO_3, HB⟩ := hrel
    cases gk with
    | zero => exact absurd HA.out (by simp [aircheckref36_Made.l0])
    | succ k1 =>
      have H := HA.out
      clear HA
      simp only [aircheckref36_Made.l0] at H
      by_cases c7 : x4_1 < (l0.length : Int)
      · rw [if_pos c7] at H
        have c7b0 : decide (x4_1 < (l0.length : Int)) = true := decide_eq_true c7
        clear c7
        by_cases c8 : x4_1 < 3
        · rw [if_pos c8] at H
          have c8b0 : decide (x4_1 < 3) = true := decide_eq_true c8
          clear c8
          by_cases c9 : 0 ≤ x4_1
          · rw [if_pos c9] at H
            have c9b0 : decide (0 ≤ x4_1) = true := decide_eq_true c9
            clear c9
            replace H := Option.bind_eq_some_iff.mp H
            obtain ⟨t332, A100, H⟩ := H
            replace H : (if x3_1.length < 4398046511104 then (aircheckref36_Made.l0 k1 l0 (x3_1 ++ [(⟨wrap64 (2 + x4_1), t332⟩ : S34)]) (wrap64 (x4_1 + 1))) else (none)) = some r := H
            have A10 := Aside0.mk A100
            clear A100
            by_cases c11 : x3_1.length < 4398046511104
            · rw [if_pos c11] at H
              have LMc11 := Aside0.mk c11
              clear c11
              obtain ⟨y335, hy335⟩ : ∃ y_ : List (S34), y_ = (x3_1 ++ [(⟨wrap64 (2 + x4_1), t332⟩ : S34)]) := ⟨_, rfl⟩
              replace H : (aircheckref36_Made.l0 k1 l0 y335 (wrap64 (x4_1 + 1))) = some r := by first | (rw [hy335]; with_reducible exact H) | (have H2_ := (Option.bind_some _ _).symm.trans H; rw [hy335]; with_reducible exact H2_) | (have H2_ := (Option.bind_some _ _).symm.trans H; with_reducible exact H2_) | with_reducible exact H | (rw [hy335]; exact H) | exact H
              have Ny335 := Aside0.mk hy335
              clear hy335
              have H' := Aside0.mk H
              clear H
              have p331 : 0 ≤ (x4_1 : Int) := of_decide_eq_true (by first | (with_reducible assumption) | assumption)
              have q331 : x4_1 < (l0.length : Int) := of_decide_eq_true (by first | (with_reducible assumption) | assumption)
              obtain ⟨ad331, A331_0, c331_0, e331, hx331_0, hl331_0, hi331_0⟩ := at_L1 HR0.out x4_1 p331 q331
              cases e331
              replace hx331_0 := (HB.out.cell (World.block_lt_of_cell? w _ hx331_0)).trans hx331_0
              have HR331_0 := Aside0.mk hi331_0
              have HC331_0 := Aside0.mk hl331_0
              clear hi331_0 hl331_0
              replace p331 := eq_true p331
              replace q331 := eq_true q331
              go_wp2_with (first | ((with_reducible refine gate_callee (f := 13) rfl ?_); refine goesL_ (some 25) rfl rfl Try.func13 (by kernel_rfl) rfl #[.slice A331_0 (rd_L1 l0 x4_1).length c331_0] rfl (by (try simp only [List.map_toArray, List.map_cons, List.map_nil]); first | done | rfl | (simp only [List.length_drop, List.length_take]; rfl)) ?_; (with_reducible refine (aircheckref36_Codes.calls k1 _ _ (rd_L1 l0 x4_1) t332 _ ?side1 ?side2 A10.out).mono ?_); (case side1 => repeat (first | exact (Kd.C_below HR331_0.out HB.out) | (with_reducible refine Kd.C_alloc ?_ _) | (with_reducible refine Kd.C_drewN ?_ _) | (with_reducible refine Kd.C_drew ?_))); (case side2 => exact HC331_0.out); rintro e w12 ⟨v333, rfl, ho0, hb⟩; refine ⟨_, rfl, ?_⟩; have n0_ := Aside0.mk (Kd.N_elder' (by (with_reducible repeat (first | apply Kd.N_alloc | apply Kd.N_drewN | apply Kd.N_drew)); exact HO_3.out) (Kd.R_base ho0) hb); have n1_ := Aside0.mk (Kd.R_lower (Kd.R_newM (M := fun k_ => (w.heap.size ≤ k_)) ho0 (below_size (by repeat (first | (with_reducible first | exact HB.out | apply below_alloc | apply pw_below_drewN | apply below_drew1) | exact HB.out))) (fun k_ h_ => h_)) (below_size (by repeat (first | (with_reducible first | exact HB.out | apply below_alloc | apply pw_below_drewN | apply below_drew1) | exact HB.out)))); have n2_ := Aside0.mk (below_step (by repeat (first | (with_reducible first | exact HB.out | apply below_alloc | apply pw_below_drewN | apply below_drew1) | exact HB.out)) hb); clear HO_3; clear HB; have HO_3 := n0_; have HO334 := n1_; have HB := n2_; clear n0_ n1_ n2_; (try clear hb); (try clear hb2); (try clear hk); (try clear hi); (try clear ho0); obtain ⟨Ao13, co13, eo13⟩ := Kd.R_slice HO334.out; subst eo13) | ((with_reducible refine gate_builtin (b := .append) (xs := #[.tmp 18, .tmp 27]) rfl ?_); at_builtin; refine Kd.N_append k34 (w0 := w) w.heap.size rfl (.tmp 18) (.tmp 27) 23 34 (.agg #[(.int .i64 0), (.slice none 0 0)]) 32 rfl Try.underlying23 info34 rfl (by decide) (by omega) u3 x3_1 (⟨wrap64 (2 + x4_1), t332⟩ : S34) [.int .i64 (wrap64 (2 + x4_1)), .slice Ao13 t332.length co13] (fun k_ => (w.heap.size ≤ k_)) (fun k_ => ((fun k_ => (w.heap.size ≤ k_))) k_ ∧ some k_ ≠ (u3 : Value).ownBlock) rfl rfl ?aP (fun _ hk => hk) ?aF ?aO ?aB ?aS ?aL ?_; (case aP => exact (k34_mkF _ _ (⟨wrap64 (2 + x4_1), t332⟩ : S34) (Kd.R_reads' (Kd.R_mono (ok' := (fun k_ => ((fun k_ => (w.heap.size ≤ k_))) k_ ∧ some k_ ≠ (u3 : Value).ownBlock)) (Kd.R_apart' (HO334.out) (Kd.N_typed HO_3.out) (by decide)) (fun k_ hk => ⟨hk.1.1, hk.2⟩))).2.1 (Kd.R_F (Kd.R_mono (ok' := (fun k_ => ((fun k_ => (w.heap.size ≤ k_))) k_ ∧ some k_ ≠ (u3 : Value).ownBlock)) (Kd.R_apart' (HO334.out) (Kd.N_typed HO_3.out) (by decide)) (fun k_ hk => ⟨hk.1.1, hk.2⟩))))); (case aB => exact (by repeat (first | (with_reducible first | exact HB.out | apply below_alloc | apply pw_below_drewN | apply below_drew1) | exact HB.out))); (case aF => exact (fun k_ hk => (Nat.le_trans (below_size (by repeat (first | (with_reducible first | exact HB.out | apply below_alloc | apply pw_below_drewN | apply below_drew1) | exact HB.out))) hk))); (case aO => exact (by (with_reducible repeat (first | apply Kd.N_alloc | apply Kd.N_drewN | apply Kd.N_drew)); exact Kd.N_mono HO_3.out (fun _ hk => hk.1))); (case aS => exact (below_size (by repeat (first | (with_reducible first | exact HB.out | apply below_alloc | apply pw_below_drewN | apply below_drew1) | exact HB.out)))); (case aL => have := LMc11.out; omega); intro v336 w14 ho hb hg hat; rw [← Ny335.out] at ho; have n0_ := Aside0.mk (hb); have n1_ := Aside0.mk (ho); clear HB; clear HO_3; clear HO334; have HB := n0_; have HO337 := n1_; clear n0_ n1_; clear ho hb hg hat))
              go_roundg k1
              case measure => have := HK1.out; omega
              case rel => exact ⟨(y335), (wrap64 (x4_1 + 1)), (by first | rfl | (simp; done) | (simp [*]; done)), H', ⟨by have := HK1.out; omega⟩, ⟨by (with_reducible repeat (first | apply Kd.N_alloc | apply Kd.N_drewN | apply Kd.N_drew)); exact HO337.out⟩, ⟨by repeat (first | (with_reducible first | exact HB.out | apply below_alloc | apply pw_below_drewN | apply below_drew1) | exact HB.out)⟩⟩
            · rw [if_neg c11] at H
              exact absurd H (by simp)
          · rw [if_neg c9] at H
            exact absurd H (by simp)
        · rw [if_neg c8] at H
          have c8b0 : decide (x4_1 < 3) = false := decide_eq_false c8
          clear c8
          obtain rfl := Option.some.inj H
          go_wp2
          go_ret
          exact ⟨_, by first | rfl | (simp [errW_none, errW_some] <;> rfl) | (simp [*, errW_none, errW_some] <;> rfl), by (with_reducible repeat (first | apply Kd.N_alloc | apply Kd.N_drewN | apply Kd.N_drew)); exact HO_3.out, by repeat (first | (with_reducible first | exact HB.out | apply below_alloc | apply pw_below_drewN | apply below_drew1) | exact HB.out)⟩
      · rw [if_neg c7] at H
        have c7b0 : decide (x4_1 < (l0.length : Int)) = false := decide_eq_false c7
        clear c7
        obtain rfl := Option.some.inj H
        go_wp2
        go_ret
        exact ⟨_, by first | rfl | (simp [errW_none, errW_some] <;> rfl) | (simp [*, errW_none, errW_some] <;> rfl), by (with_reducible repeat (first | apply Kd.N_alloc | apply Kd.N_drewN | apply Kd.N_drew)); exact HO_3.out, by repeat (first | (with_reducible first | exact HB.out | apply below_alloc | apply pw_below_drewN | apply below_drew1) | exact HB.out)⟩

end Go.Proofs.Ytgaepndbfpfniaa.PF4
