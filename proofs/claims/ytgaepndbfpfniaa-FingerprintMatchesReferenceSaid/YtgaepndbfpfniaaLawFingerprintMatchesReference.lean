/- The statement FingerprintMatchesReference: for every input the law returns true and every argument reads as before; no further condition. -/
import Derived.Test.YtgaepndbfpfniaaPFRx37
import Derived.Test.YtgaepndbfpfniaaRows
import Derived.Test.YtgaepndbfpfniaaPFRx38
import Derived.WalkKit
import Derived.ProofKit
import Derived.OpenShut
import Derived.ShutString
import Derived.ChangeOld
import Derived.Below
import Derived.SizedLaws
namespace Go.Proofs.Ytgaepndbfpfniaa.fingerprintMatchesReference
open Go.ChangeShapes Go.WideShapes Go.ChangeAt Go.RowKit Go.Proofs.Ytgaepndbfpfniaa.PFR
open Go.ChangeMaps (open_string shut_string)
set_option linter.unusedVariables false
set_option linter.unusedSimpArgs false
theorem own : ownKnob Try.prog.godebug = none := by kernel_rfl
theorem laidOut : laidOutB Try.prog = true := by kernel_rfl
theorem okWide_array {P : Program} {w : World} {r : Reach} {base : Nat} {t : TypeId} {v : Value} {n : Nat} {e : TypeId} (ht : P.underlying t = some (.array n e)) (h : Value.okWide P w r base t v) : ∃ cs, v = .agg cs ∧ cs.size = P.cellsOf t := by
  unfold Value.okWide at h
  simp only [ht] at h
  obtain ⟨cs, rfl, h1, _⟩ := h
  exact ⟨cs, rfl, h1⟩
set_option maxRecDepth 100000 in
theorem lifted (os : Os) (started : os.Started) (H : Type) (enc : TypeId × Value → H) :
    ReturnsInHanded {} Try.checked os 3 .any (Rows.fingerprintMatchesReferenceSpec.pre6 enc Try.prog Try.f3 Rows.fingerprintMatchesReferenceRow.domain false) (Rows.fingerprintMatchesReferenceSpec.post enc Try.prog Try.f3 false true false false) := by
  refine returnsInHanded_of_change_sized (C := Try.checked) own started (by kernel_rfl) Try.func3
    (ChangeSpec.witness6 (enc := enc) (C := Try.checked) false ⟨#[], #[.agg #[.slice none 0 0, .slice none 0 0, .slice none 0 0, .int .i64 0, .int .i64 0, .int .i64 0, .int .i64 0, .slice none 0 0, .slice none 0 0], .slice none 0 0, .slice none 0 0, .slice none 0 0, .agg #[.int .i64 0, .int .i64 0, .int .i64 0]], []⟩ 8 (by kernel_rfl) (by kernel_rfl) (by kernel_rfl) (by kernel_rfl)) ?_
  intro W base args ds gs before hval0 hW hcnd hsz0 _
  have hsz : (DataW.weightsEach Try.prog (Try.f3.params.toList ++ Rows.fingerprintMatchesReferenceSpec.plain.varTypes Try.prog) (ds ++ gs)).all (· ≤ reachBytes) = true := hsz0
  have hval : ∀ (j : Nat) t v, Try.f3.params[j]? = some t → args[j]? = some v → Value.okWide Try.prog W .any base t v := hval0
  have hW' := hW
  obtain ⟨p, q, hA0, hV, rfl, hfz, hnd⟩ := hW
  have hA : DataW.TrodAll enc Try.prog W 0 (fun _ => true) true Try.f3.params.toList args.toList ds p := hA0
  rw [Try.params3] at hA hval hsz
  obtain ⟨v0, vs0, d0, ds0, p0, q0, hargs, rfl, rfl, h0, r0⟩ := trodAll_cons hA
  obtain ⟨v1, vs1, d1, ds1, p1, q1, rfl, rfl, rfl, h1, r1⟩ := trodAll_cons r0
  obtain ⟨v2, vs2, d2, ds2, p2, q2, rfl, rfl, rfl, h2, r2⟩ := trodAll_cons r1
  obtain ⟨v3, vs3, d3, ds3, p3, q3, rfl, rfl, rfl, h3, r3⟩ := trodAll_cons r2
  obtain ⟨v4, vs4, d4, ds4, p4, q4, rfl, rfl, rfl, h4, r4⟩ := trodAll_cons r3
  obtain ⟨rfl, rfl, rfl⟩ := trodAll_nil r4
  obtain rfl : args = #[v0, v1, v2, v3, v4] := by cases args; simp_all
  obtain ⟨rfl, rfl⟩ := trodVars_none hV
  have k0 := h0
  have lt0 : ∀ x ∈ p0, x.block < W.heap.size := by obtain ⟨m, hm⟩ := k0; exact DataW.trod_lt m _ _ _ hm
  obtain ⟨b0, K0, w0⟩ := Open.arg_open o28 hsz (j := 0) rfl rfl h0
  obtain ⟨cs0, rfl, _⟩ := okWide_struct Try.underlying28 (hval 0 28 v0 rfl rfl)
  obtain ⟨A0_0, c0_0, A0_1, c0_1, A0_2, c0_2, A0_7, c0_7, A0_8, c0_8, e0, hc0_0, hr0_0, hc0_1, hr0_1, hc0_2, hr0_2, hc0_7, hr0_7, hc0_8, hr0_8⟩ := k28_open K0
  obtain rfl : cs0 = #[.slice A0_0 b0.f0.length c0_0, .slice A0_1 b0.f1.length c0_1, .slice A0_2 b0.f2.length c0_2, .int .i64 b0.f3.f0, .int .i64 b0.f3.f1, .int .i64 b0.f3.f2, .int .i64 b0.f3.f3, .slice A0_7 b0.f3.f4.length c0_7, .slice A0_8 b0.f4.length c0_8] := Open.agg_open e0
  have k1 := h1
  have lt1 : ∀ x ∈ p1, x.block < W.heap.size := by obtain ⟨m, hm⟩ := k1; exact DataW.trod_lt m _ _ _ hm
  obtain ⟨b1, K1, w1⟩ := Open.arg_open (Open.opens_slice (B := 8) Try.underlying22 (by kernel_rfl) (by kernel_rfl) (Open.opens_int Try.underlying3)) hsz (j := 1) rfl rfl h1
  obtain ⟨A1, len1, c1, rfl⟩ := okWide_slice Try.underlying22 (hval 1 22 v1 rfl rfl)
  obtain rfl := Open.slice_len K1
  obtain ⟨hc1, hr1⟩ := Open.slice_open K1
  clear h1
  have k2 := h2
  have lt2 : ∀ x ∈ p2, x.block < W.heap.size := by obtain ⟨m, hm⟩ := k2; exact DataW.trod_lt m _ _ _ hm
  obtain ⟨b2, K2, w2⟩ := Open.arg_open (Open.opens_slice (B := 8) Try.underlying22 (by kernel_rfl) (by kernel_rfl) (Open.opens_int Try.underlying3)) hsz (j := 2) rfl rfl h2
  obtain ⟨A2, len2, c2, rfl⟩ := okWide_slice Try.underlying22 (hval 2 22 v2 rfl rfl)
  obtain rfl := Open.slice_len K2
  obtain ⟨hc2, hr2⟩ := Open.slice_open K2
  clear h2
  have k3 := h3
  have lt3 : ∀ x ∈ p3, x.block < W.heap.size := by obtain ⟨m, hm⟩ := k3; exact DataW.trod_lt m _ _ _ hm
  obtain ⟨b3, K3, w3⟩ := Open.arg_open (Open.opens_slice (B := 24) Try.underlying26 (by kernel_rfl) (by kernel_rfl) (Open.opens_slice (B := 8) Try.underlying22 (by kernel_rfl) (by kernel_rfl) (Open.opens_int Try.underlying3))) hsz (j := 3) rfl rfl h3
  obtain ⟨A3, len3, c3, rfl⟩ := okWide_slice Try.underlying26 (hval 3 26 v3 rfl rfl)
  obtain rfl := Open.slice_len K3
  obtain ⟨hc3, hr3⟩ := Open.slice_open K3
  clear h3
  have k4 := h4
  have lt4 : ∀ x ∈ p4, x.block < W.heap.size := by obtain ⟨m, hm⟩ := k4; exact DataW.trod_lt m _ _ _ hm
  obtain ⟨b4, K4, w4⟩ := Open.arg_open o29 hsz (j := 4) rfl rfl h4
  obtain ⟨cs4, rfl, _⟩ := okWide_array Try.underlying29 (hval 4 29 v4 rfl rfl)
  obtain e4 := k29_open K4
  obtain rfl : cs4 = #[.int .i64 b4.f0, .int .i64 b4.f1, .int .i64 b4.f2] := Open.agg_open e4
  clear hA0 hval0 hsz0 hsz
  obtain ⟨k, hk⟩ := Pure.FingerprintMatchesReference b0.f0 b0.f1 b0.f2 b0.f3.f0 b0.f3.f1 b0.f3.f2 b0.f3.f3 b0.f3.f4 b0.f4 b1 b2 b3 b4.f0 b4.f1 b4.f2 w0 w1 w2 w3 w4
  refine (PFR.airchecklaw36_FingerprintMatchesReference.calls k A0_0 c0_0 b0.f0 A0_1 c0_1 b0.f1 A0_2 c0_2 b0.f2 b0.f3.f0 b0.f3.f1 b0.f3.f2 b0.f3.f3 A0_7 c0_7 b0.f3.f4 A0_8 c0_8 b0.f4 A1 c1 b1 A2 c2 b2 A3 c3 b3 b4.f0 b4.f1 b4.f2 true ⟨rfl⟩ W hr0_0 hc0_0 hr0_1 hc0_1 hr0_2 hc0_2 hr0_7 hc0_7 hr0_8 hc0_8 hr1 hc1 hr2 hc2 hr3 hc3 hk).mono fun e W' ⟨he, bel0⟩ => ?_
  have bel : Below W.heap.size W W' := bel0
  subst he
  exact ⟨_, rfl, _, _, _, [], _, [], hW', trodAll_mk1 (shut_bool Try.underlying4 _), (trodAll_cons_mk (Below.trod laidOut (by kernel_rfl) (of_decide_eq_true (by kernel_rfl)) k0 bel lt0) (trodAll_cons_mk (Below.trod laidOut (by kernel_rfl) (of_decide_eq_true (by kernel_rfl)) k1 bel lt1) (trodAll_cons_mk (Below.trod laidOut (by kernel_rfl) (of_decide_eq_true (by kernel_rfl)) k2 bel lt2) (trodAll_cons_mk (Below.trod laidOut (by kernel_rfl) (of_decide_eq_true (by kernel_rfl)) k3 bel lt3) (trodAll_cons_mk (Below.trod laidOut (by kernel_rfl) (of_decide_eq_true (by kernel_rfl)) k4 bel lt4) trodAll_mk0))))), rfl, bel.frame _, fun h => by cases h⟩
theorem over : Rows.fingerprintMatchesReferenceRow.holds Try.pinned (OpenSpec.ofChange Rows.fingerprintMatchesReferenceSpec) :=
  OpenClaim.holds_of_wide 3 Try.f3 rfl rfl rfl rfl rfl rfl rfl ⟨rfl, rfl, rfl, rfl, rfl⟩ rfl rfl rfl rfl rfl (by kernel_rfl) Try.func3 (by kernel_rfl)
    (of_decide_eq_true (by kernel_rfl)) (by unfold Func.isWrapper; first | (rw [if_pos (by decide +kernel)]; kernel_rfl) | (rw [if_neg (by decide +kernel)]; exact ⟨rfl, rfl⟩))
    (fun os started H enc _ => lifted os started H enc)
theorem proved : Rows.FingerprintMatchesReferenceSaid := over
#print axioms proved
end Go.Proofs.Ytgaepndbfpfniaa.fingerprintMatchesReference
namespace Go.Proofs.Ytgaepndbfpfniaa
/-- The row, under a short name, for the claim. -/
theorem fingerprintMatchesReference_holds : Rows.FingerprintMatchesReferenceSaid := fingerprintMatchesReference.proved
end Go.Proofs.Ytgaepndbfpfniaa
