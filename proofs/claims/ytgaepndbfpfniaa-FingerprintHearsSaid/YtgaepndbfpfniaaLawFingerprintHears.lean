/- The statement FingerprintHears: for every input the law returns true and every argument reads as before; no further condition. -/
import Derived.Test.YtgaepndbfpfniaaPFBx23
import Derived.Test.YtgaepndbfpfniaaRows
import Derived.Test.YtgaepndbfpfniaaPFBx28
import Derived.Test.YtgaepndbfpfniaaPureFingerprintHears
import Derived.WalkKit
import Derived.ProofKit
import Derived.OpenShut
import Derived.ShutString
import Derived.ChangeOld
import Derived.Below
import Derived.SizedLaws
namespace Go.Proofs.Ytgaepndbfpfniaa.fingerprintHears
open Go.ChangeShapes Go.WideShapes Go.ChangeAt Go.RowKit Go.Proofs.Ytgaepndbfpfniaa.PFB
open Go.ChangeMaps (open_string shut_string)
set_option linter.unusedVariables false
set_option linter.unusedSimpArgs false
theorem own : ownKnob Try.prog.godebug = none := by kernel_rfl
theorem laidOut : laidOutB Try.prog = true := by kernel_rfl
set_option maxRecDepth 100000 in
theorem lifted (os : Os) (started : os.Started) (H : Type) (enc : TypeId × Value → H) :
    ReturnsInHanded {} Try.checked os 7 .any (Rows.fingerprintHearsSpec.pre6 enc Try.prog Try.f7 Rows.fingerprintHearsRow.domain false) (Rows.fingerprintHearsSpec.post enc Try.prog Try.f7 false true false false) := by
  refine returnsInHanded_of_change_sized (C := Try.checked) own started (by kernel_rfl) Try.func7
    (ChangeSpec.witness6 (enc := enc) (C := Try.checked) false ⟨#[], #[.slice none 0 0, .int .i64 0, .int .i64 0, .int .i64 0, .slice none 0 0], []⟩ 8 (by kernel_rfl) (by kernel_rfl) (by kernel_rfl) (by kernel_rfl)) ?_
  intro W base args ds gs before hval0 hW hcnd hsz0 _
  have hsz : (DataW.weightsEach Try.prog (Try.f7.params.toList ++ Rows.fingerprintHearsSpec.plain.varTypes Try.prog) (ds ++ gs)).all (· ≤ reachBytes) = true := hsz0
  have hval : ∀ (j : Nat) t v, Try.f7.params[j]? = some t → args[j]? = some v → Value.okWide Try.prog W .any base t v := hval0
  have hW' := hW
  obtain ⟨p, q, hA0, hV, rfl, hfz, hnd⟩ := hW
  have hA : DataW.TrodAll enc Try.prog W 0 (fun _ => true) true Try.f7.params.toList args.toList ds p := hA0
  rw [Try.params7] at hA hval hsz
  obtain ⟨v0, vs0, d0, ds0, p0, q0, hargs, rfl, rfl, h0, r0⟩ := trodAll_cons hA
  obtain ⟨v1, vs1, d1, ds1, p1, q1, rfl, rfl, rfl, h1, r1⟩ := trodAll_cons r0
  obtain ⟨v2, vs2, d2, ds2, p2, q2, rfl, rfl, rfl, h2, r2⟩ := trodAll_cons r1
  obtain ⟨v3, vs3, d3, ds3, p3, q3, rfl, rfl, rfl, h3, r3⟩ := trodAll_cons r2
  obtain ⟨v4, vs4, d4, ds4, p4, q4, rfl, rfl, rfl, h4, r4⟩ := trodAll_cons r3
  obtain ⟨rfl, rfl, rfl⟩ := trodAll_nil r4
  obtain rfl : args = #[v0, v1, v2, v3, v4] := by cases args; simp_all
  obtain ⟨rfl, rfl⟩ := trodVars_none hV
  have k0 := h0
  have lt0 : ∀ x ∈ p0, x.block < W.heap.size := by obtain ⟨m, hm⟩ := k0; exact DataW.trod_lt m _ _ _ hm
  obtain ⟨b0, K0, w0⟩ := Open.arg_open (Open.opens_slice (B := 24) Try.underlying26 (by kernel_rfl) (by kernel_rfl) (Open.opens_slice (B := 8) Try.underlying22 (by kernel_rfl) (by kernel_rfl) (Open.opens_int Try.underlying3))) hsz (j := 0) rfl rfl h0
  obtain ⟨A0, len0, c0, rfl⟩ := okWide_slice Try.underlying26 (hval 0 26 v0 rfl rfl)
  obtain rfl := Open.slice_len K0
  obtain ⟨hc0, hr0⟩ := Open.slice_open K0
  clear h0
  obtain ⟨a1, rfl, rfl, rfl, w1⟩ := open_int Try.underlying3 (hval 1 3 v1 rfl rfl) h1
  obtain ⟨a2, rfl, rfl, rfl, w2⟩ := open_int Try.underlying3 (hval 2 3 v2 rfl rfl) h2
  obtain ⟨a3, rfl, rfl, rfl, w3⟩ := open_int Try.underlying3 (hval 3 3 v3 rfl rfl) h3
  have k4 := h4
  have lt4 : ∀ x ∈ p4, x.block < W.heap.size := by obtain ⟨m, hm⟩ := k4; exact DataW.trod_lt m _ _ _ hm
  obtain ⟨b4, K4, w4⟩ := Open.arg_open (Open.opens_slice (B := 24) Try.underlying59 (by kernel_rfl) (by kernel_rfl) o29) hsz (j := 4) rfl rfl h4
  obtain ⟨A4, len4, c4, rfl⟩ := okWide_slice Try.underlying59 (hval 4 59 v4 rfl rfl)
  obtain rfl := Open.slice_len K4
  obtain ⟨hc4, hr4⟩ := Open.slice_open K4
  clear h4
  clear hA0 hval0 hsz0 hsz
  obtain ⟨k, hk⟩ := Pure.FingerprintHears b0 a1 a2 a3 b4 w0 w1 w2 w3 w4
  refine (PFB.airchecklaw36_FingerprintHears.calls k A0 c0 b0 a1 a2 a3 A4 c4 b4 true ⟨rfl⟩ W hr0 hc0 hr4 hc4 hk).mono fun e W' ⟨he, bel0⟩ => ?_
  have bel : Below W.heap.size W W' := bel0
  subst he
  exact ⟨_, rfl, _, _, _, [], _, [], hW', trodAll_mk1 (shut_bool Try.underlying4 _), (trodAll_cons_mk (Below.trod laidOut (by kernel_rfl) (of_decide_eq_true (by kernel_rfl)) k0 bel lt0) (trodAll_cons_mk (shut_int Try.underlying3 w1) (trodAll_cons_mk (shut_int Try.underlying3 w2) (trodAll_cons_mk (shut_int Try.underlying3 w3) (trodAll_cons_mk (Below.trod laidOut (by kernel_rfl) (of_decide_eq_true (by kernel_rfl)) k4 bel lt4) trodAll_mk0))))), rfl, bel.frame _, fun h => by cases h⟩
theorem over : Rows.fingerprintHearsRow.holds Try.pinned (OpenSpec.ofChange Rows.fingerprintHearsSpec) :=
  OpenClaim.holds_of_wide 7 Try.f7 rfl rfl rfl rfl rfl rfl rfl ⟨rfl, rfl, rfl, rfl, rfl⟩ rfl rfl rfl rfl rfl (by kernel_rfl) Try.func7 (by kernel_rfl)
    (of_decide_eq_true (by kernel_rfl)) (by unfold Func.isWrapper; first | (rw [if_pos (by decide +kernel)]; kernel_rfl) | (rw [if_neg (by decide +kernel)]; exact ⟨rfl, rfl⟩))
    (fun os started H enc _ => lifted os started H enc)
theorem proved : Rows.FingerprintHearsSaid := over
#print axioms proved
end Go.Proofs.Ytgaepndbfpfniaa.fingerprintHears
namespace Go.Proofs.Ytgaepndbfpfniaa
/-- The row, under a short name, for the claim. -/
theorem fingerprintHears_holds : Rows.FingerprintHearsSaid := fingerprintHears.proved
end Go.Proofs.Ytgaepndbfpfniaa
