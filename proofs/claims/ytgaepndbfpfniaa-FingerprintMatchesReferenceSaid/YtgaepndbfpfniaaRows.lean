/-
  No cell of these rows narrows 'for every input' (looked for: loops, veiled, ifaces, maps, wideKeys, modest, calm, conditions, laid).
  DERIVED. THE GIVEN ROWS OF THIS SEAT. 7 by the template 'for every input the law returns true; each argument reads behind the call as it read before'; 0 by the template 'total and deterministic' (their statements: YtgaepndbfpfniaaTotals.lean).
  GIVEN WITH THE SEED: the statements are not yours to turn. If you find one false, say at which input.
  Laid BY PROGRAM, IN A SANDBOX (cutbox-rows.mjs): the forced cells as the released guide's own fill.sh prints them over the translation 5a9f16a555f3af7d… (all of the seat's roots in one cut). By AI agents, Wed Nov 11 2026. No macro, syntax, notation, axiom, sorry.
-/
import Derived.Test.YtgaepndbfpfniaaChecked
import GoSem.Claim
import GoSem.ClaimJoined
import GoSem.ClaimMapViews
import Derived.JoinedTies
import Derived.KernelRfl
namespace Go.Proofs.Ytgaepndbfpfniaa
/- THE CELL 'sum', in the pinned program and in every row, IS THE sha256 OF THE DUMP (.gsa) THAT YtgaepndbfpfniaaProg.lean LOADS. Nothing in Lean hashes anything: it is a label: what it is worth is what the hold of that sum in a sandbox is worth. -/
noncomputable def Try.pinned : Pinned := { name := "ytgaepndbfpfniaa", sum := "5a9f16a555f3af7d6f320da6211021445d4402fee46ad2014e7cf835077b746b", checked := Try.checked }
namespace Rows
def none {H : Type} : Left H := { results := [], args := [] }

/-- 'airchecklaw36.FingerprintMatchesReference': WHATEVER THE INPUT: true; the input reads as it did. -/
def fingerprintMatchesReferenceSpec : ChangeSpec := { name := "fingerprintMatchesReference", fn := fun _ => fun
  | [d1, d2, d3, d4, d5] => { results := [.lit (.bool true)], args := [d1, d2, d3, d4, d5] }
  | _ => none }
def fingerprintMatchesReferenceRow : OpenClaim := { program := "ytgaepndbfpfniaa", sum := "5a9f16a555f3af7d6f320da6211021445d4402fee46ad2014e7cf835077b746b", func := "aircheck/airchecklaw36.FingerprintMatchesReference", spec := "fingerprintMatchesReference", unfollowed := true, recurses := true, apart := false }
def FingerprintMatchesReferenceSaid : Prop := fingerprintMatchesReferenceRow.holds Try.pinned (OpenSpec.ofChange fingerprintMatchesReferenceSpec)

/-- ITS FALSE NEIGHBOUR: 'it returns false'. Refute it at one input. -/
def fingerprintMatchesReferenceWrong : ChangeSpec := { name := "fingerprintMatchesReference", fn := fun _ => fun
  | [d1, d2, d3, d4, d5] => { results := [.lit (.bool false)], args := [d1, d2, d3, d4, d5] }
  | _ => none }
def FingerprintMatchesReferenceWrongFalsely : Prop := fingerprintMatchesReferenceRow.holds Try.pinned (OpenSpec.ofChange fingerprintMatchesReferenceWrong)

/-- 'airchecklaw36.FingerprintMetric': WHATEVER THE INPUT: true; the input reads as it did. -/
def fingerprintMetricSpec : ChangeSpec := { name := "fingerprintMetric", fn := fun _ => fun
  | [d1, d2, d3] => { results := [.lit (.bool true)], args := [d1, d2, d3] }
  | _ => none }
def fingerprintMetricRow : OpenClaim := { program := "ytgaepndbfpfniaa", sum := "5a9f16a555f3af7d6f320da6211021445d4402fee46ad2014e7cf835077b746b", func := "aircheck/airchecklaw36.FingerprintMetric", spec := "fingerprintMetric", unfollowed := true, recurses := true, apart := false }
def FingerprintMetricSaid : Prop := fingerprintMetricRow.holds Try.pinned (OpenSpec.ofChange fingerprintMetricSpec)

/-- ITS FALSE NEIGHBOUR: 'it returns false'. Refute it at one input. -/
def fingerprintMetricWrong : ChangeSpec := { name := "fingerprintMetric", fn := fun _ => fun
  | [d1, d2, d3] => { results := [.lit (.bool false)], args := [d1, d2, d3] }
  | _ => none }
def FingerprintMetricWrongFalsely : Prop := fingerprintMetricRow.holds Try.pinned (OpenSpec.ofChange fingerprintMetricWrong)

/-- 'airchecklaw36.FingerprintBounds': WHATEVER THE INPUT: true; the input reads as it did. -/
def fingerprintBoundsSpec : ChangeSpec := { name := "fingerprintBounds", fn := fun _ => fun
  | [d1, d2, d3, d4, d5, d6] => { results := [.lit (.bool true)], args := [d1, d2, d3, d4, d5, d6] }
  | _ => none }
def fingerprintBoundsRow : OpenClaim := { program := "ytgaepndbfpfniaa", sum := "5a9f16a555f3af7d6f320da6211021445d4402fee46ad2014e7cf835077b746b", func := "aircheck/airchecklaw36.FingerprintBounds", spec := "fingerprintBounds", unfollowed := true, recurses := true, apart := false }
def FingerprintBoundsSaid : Prop := fingerprintBoundsRow.holds Try.pinned (OpenSpec.ofChange fingerprintBoundsSpec)

/-- ITS FALSE NEIGHBOUR: 'it returns false'. Refute it at one input. -/
def fingerprintBoundsWrong : ChangeSpec := { name := "fingerprintBounds", fn := fun _ => fun
  | [d1, d2, d3, d4, d5, d6] => { results := [.lit (.bool false)], args := [d1, d2, d3, d4, d5, d6] }
  | _ => none }
def FingerprintBoundsWrongFalsely : Prop := fingerprintBoundsRow.holds Try.pinned (OpenSpec.ofChange fingerprintBoundsWrong)

/-- 'airchecklaw36.FingerprintAligns': WHATEVER THE INPUT: true; the input reads as it did. -/
def fingerprintAlignsSpec : ChangeSpec := { name := "fingerprintAligns", fn := fun _ => fun
  | [d1, d2, d3, d4] => { results := [.lit (.bool true)], args := [d1, d2, d3, d4] }
  | _ => none }
def fingerprintAlignsRow : OpenClaim := { program := "ytgaepndbfpfniaa", sum := "5a9f16a555f3af7d6f320da6211021445d4402fee46ad2014e7cf835077b746b", func := "aircheck/airchecklaw36.FingerprintAligns", spec := "fingerprintAligns", unfollowed := true, recurses := true, apart := false }
def FingerprintAlignsSaid : Prop := fingerprintAlignsRow.holds Try.pinned (OpenSpec.ofChange fingerprintAlignsSpec)

/-- ITS FALSE NEIGHBOUR: 'it returns false'. Refute it at one input. -/
def fingerprintAlignsWrong : ChangeSpec := { name := "fingerprintAligns", fn := fun _ => fun
  | [d1, d2, d3, d4] => { results := [.lit (.bool false)], args := [d1, d2, d3, d4] }
  | _ => none }
def FingerprintAlignsWrongFalsely : Prop := fingerprintAlignsRow.holds Try.pinned (OpenSpec.ofChange fingerprintAlignsWrong)

/-- 'airchecklaw36.FingerprintHears': WHATEVER THE INPUT: true; the input reads as it did. -/
def fingerprintHearsSpec : ChangeSpec := { name := "fingerprintHears", fn := fun _ => fun
  | [d1, d2, d3, d4, d5] => { results := [.lit (.bool true)], args := [d1, d2, d3, d4, d5] }
  | _ => none }
def fingerprintHearsRow : OpenClaim := { program := "ytgaepndbfpfniaa", sum := "5a9f16a555f3af7d6f320da6211021445d4402fee46ad2014e7cf835077b746b", func := "aircheck/airchecklaw36.FingerprintHears", spec := "fingerprintHears", unfollowed := true, recurses := true, apart := false }
def FingerprintHearsSaid : Prop := fingerprintHearsRow.holds Try.pinned (OpenSpec.ofChange fingerprintHearsSpec)

/-- ITS FALSE NEIGHBOUR: 'it returns false'. Refute it at one input. -/
def fingerprintHearsWrong : ChangeSpec := { name := "fingerprintHears", fn := fun _ => fun
  | [d1, d2, d3, d4, d5] => { results := [.lit (.bool false)], args := [d1, d2, d3, d4, d5] }
  | _ => none }
def FingerprintHearsWrongFalsely : Prop := fingerprintHearsRow.holds Try.pinned (OpenSpec.ofChange fingerprintHearsWrong)

/-- 'airchecklaw36.FingerprintParts': WHATEVER THE INPUT: true; the input reads as it did. -/
def fingerprintPartsSpec : ChangeSpec := { name := "fingerprintParts", fn := fun _ => fun
  | [d1, d2, d3, d4, d5] => { results := [.lit (.bool true)], args := [d1, d2, d3, d4, d5] }
  | _ => none }
def fingerprintPartsRow : OpenClaim := { program := "ytgaepndbfpfniaa", sum := "5a9f16a555f3af7d6f320da6211021445d4402fee46ad2014e7cf835077b746b", func := "aircheck/airchecklaw36.FingerprintParts", spec := "fingerprintParts", unfollowed := true, recurses := true, apart := false }
def FingerprintPartsSaid : Prop := fingerprintPartsRow.holds Try.pinned (OpenSpec.ofChange fingerprintPartsSpec)

/-- ITS FALSE NEIGHBOUR: 'it returns false'. Refute it at one input. -/
def fingerprintPartsWrong : ChangeSpec := { name := "fingerprintParts", fn := fun _ => fun
  | [d1, d2, d3, d4, d5] => { results := [.lit (.bool false)], args := [d1, d2, d3, d4, d5] }
  | _ => none }
def FingerprintPartsWrongFalsely : Prop := fingerprintPartsRow.holds Try.pinned (OpenSpec.ofChange fingerprintPartsWrong)

/-- 'airchecklaw36.FingerprintMore': WHATEVER THE INPUT: true; the input reads as it did. -/
def fingerprintMoreSpec : ChangeSpec := { name := "fingerprintMore", fn := fun _ => fun
  | [d1, d2, d3] => { results := [.lit (.bool true)], args := [d1, d2, d3] }
  | _ => none }
def fingerprintMoreRow : OpenClaim := { program := "ytgaepndbfpfniaa", sum := "5a9f16a555f3af7d6f320da6211021445d4402fee46ad2014e7cf835077b746b", func := "aircheck/airchecklaw36.FingerprintMore", spec := "fingerprintMore", unfollowed := true, recurses := true, apart := false }
def FingerprintMoreSaid : Prop := fingerprintMoreRow.holds Try.pinned (OpenSpec.ofChange fingerprintMoreSpec)

/-- ITS FALSE NEIGHBOUR: 'it returns false'. Refute it at one input. -/
def fingerprintMoreWrong : ChangeSpec := { name := "fingerprintMore", fn := fun _ => fun
  | [d1, d2, d3] => { results := [.lit (.bool false)], args := [d1, d2, d3] }
  | _ => none }
def FingerprintMoreWrongFalsely : Prop := fingerprintMoreRow.holds Try.pinned (OpenSpec.ofChange fingerprintMoreWrong)

/- THE SECOND FORM. 'bulk': how many values and letters a reading holds, each counted each time it is reached (what is shared counts as often as it is met; a slice's spare places count too). A statement '..UptoSaid' is the law's where the arguments, and the package variables that the reading takes, are together of bulk at most 1048576: NARROWER than '..Said'. Prove '..Said' where nothing that the law and all that it calls make is longer than what came in: it says more and counts as full. Else prove '..UptoSaid'. A law counts once. -/
mutual
def uptoBulk {H : Type} : DataW H → Nat
  | .lit (.string bytes) => bytes.length + 1
  | .lit _ => 1
  | .nil => 1
  | .ptr d => uptoBulk d + 1
  | .slice elems spare => uptoBulkAll elems + uptoBulkAll spare + 1
  | .agg parts => uptoBulkAll parts + 1
  | .iface _ d => uptoBulk d + 1
  | .map entries => uptoBulkEntries entries + 1
  | .held _ => 1
def uptoBulkAll {H : Type} : List (DataW H) → Nat
  | [] => 0
  | d :: r => uptoBulk d + uptoBulkAll r
def uptoBulkEntries {H : Type} : List (Lit × DataW H) → Nat
  | [] => 0
  | x :: r => uptoBulkEntry x + uptoBulkEntries r
def uptoBulkEntry {H : Type} : Lit × DataW H → Nat
  | (.string bytes, d) => bytes.length + uptoBulk d + 1
  | (_, d) => uptoBulk d + 1
 end
def uptoSmall : (H : Type) → List (DataW H) → Bool := fun _ ds => decide (uptoBulkAll ds ≤ 1048576)
def OpenSpec.upto (s : _root_.Go.ChangeSpec) : _root_.Go.OpenSpec := { _root_.Go.OpenSpec.ofChange s with cond := some uptoSmall }

/-- 'airchecklaw36.FingerprintMatchesReference', WHERE WHAT IT READS IS OF BULK AT MOST 1048576: true; the input reads as it did. -/
def fingerprintMatchesReferenceUptoRow : OpenClaim := { program := "ytgaepndbfpfniaa", sum := "5a9f16a555f3af7d6f320da6211021445d4402fee46ad2014e7cf835077b746b", func := "aircheck/airchecklaw36.FingerprintMatchesReference", spec := "fingerprintMatchesReference", unfollowed := true, recurses := true, apart := false, narrowed := true }
def FingerprintMatchesReferenceUptoSaid : Prop := fingerprintMatchesReferenceUptoRow.holds Try.pinned (OpenSpec.upto fingerprintMatchesReferenceSpec)

/-- 'airchecklaw36.FingerprintMetric', WHERE WHAT IT READS IS OF BULK AT MOST 1048576: true; the input reads as it did. -/
def fingerprintMetricUptoRow : OpenClaim := { program := "ytgaepndbfpfniaa", sum := "5a9f16a555f3af7d6f320da6211021445d4402fee46ad2014e7cf835077b746b", func := "aircheck/airchecklaw36.FingerprintMetric", spec := "fingerprintMetric", unfollowed := true, recurses := true, apart := false, narrowed := true }
def FingerprintMetricUptoSaid : Prop := fingerprintMetricUptoRow.holds Try.pinned (OpenSpec.upto fingerprintMetricSpec)

/-- 'airchecklaw36.FingerprintBounds', WHERE WHAT IT READS IS OF BULK AT MOST 1048576: true; the input reads as it did. -/
def fingerprintBoundsUptoRow : OpenClaim := { program := "ytgaepndbfpfniaa", sum := "5a9f16a555f3af7d6f320da6211021445d4402fee46ad2014e7cf835077b746b", func := "aircheck/airchecklaw36.FingerprintBounds", spec := "fingerprintBounds", unfollowed := true, recurses := true, apart := false, narrowed := true }
def FingerprintBoundsUptoSaid : Prop := fingerprintBoundsUptoRow.holds Try.pinned (OpenSpec.upto fingerprintBoundsSpec)

/-- 'airchecklaw36.FingerprintAligns', WHERE WHAT IT READS IS OF BULK AT MOST 1048576: true; the input reads as it did. -/
def fingerprintAlignsUptoRow : OpenClaim := { program := "ytgaepndbfpfniaa", sum := "5a9f16a555f3af7d6f320da6211021445d4402fee46ad2014e7cf835077b746b", func := "aircheck/airchecklaw36.FingerprintAligns", spec := "fingerprintAligns", unfollowed := true, recurses := true, apart := false, narrowed := true }
def FingerprintAlignsUptoSaid : Prop := fingerprintAlignsUptoRow.holds Try.pinned (OpenSpec.upto fingerprintAlignsSpec)

/-- 'airchecklaw36.FingerprintHears', WHERE WHAT IT READS IS OF BULK AT MOST 1048576: true; the input reads as it did. -/
def fingerprintHearsUptoRow : OpenClaim := { program := "ytgaepndbfpfniaa", sum := "5a9f16a555f3af7d6f320da6211021445d4402fee46ad2014e7cf835077b746b", func := "aircheck/airchecklaw36.FingerprintHears", spec := "fingerprintHears", unfollowed := true, recurses := true, apart := false, narrowed := true }
def FingerprintHearsUptoSaid : Prop := fingerprintHearsUptoRow.holds Try.pinned (OpenSpec.upto fingerprintHearsSpec)

/-- 'airchecklaw36.FingerprintParts', WHERE WHAT IT READS IS OF BULK AT MOST 1048576: true; the input reads as it did. -/
def fingerprintPartsUptoRow : OpenClaim := { program := "ytgaepndbfpfniaa", sum := "5a9f16a555f3af7d6f320da6211021445d4402fee46ad2014e7cf835077b746b", func := "aircheck/airchecklaw36.FingerprintParts", spec := "fingerprintParts", unfollowed := true, recurses := true, apart := false, narrowed := true }
def FingerprintPartsUptoSaid : Prop := fingerprintPartsUptoRow.holds Try.pinned (OpenSpec.upto fingerprintPartsSpec)

/-- 'airchecklaw36.FingerprintMore', WHERE WHAT IT READS IS OF BULK AT MOST 1048576: true; the input reads as it did. -/
def fingerprintMoreUptoRow : OpenClaim := { program := "ytgaepndbfpfniaa", sum := "5a9f16a555f3af7d6f320da6211021445d4402fee46ad2014e7cf835077b746b", func := "aircheck/airchecklaw36.FingerprintMore", spec := "fingerprintMore", unfollowed := true, recurses := true, apart := false, narrowed := true }
def FingerprintMoreUptoSaid : Prop := fingerprintMoreUptoRow.holds Try.pinned (OpenSpec.upto fingerprintMoreSpec)

end Rows
end Go.Proofs.Ytgaepndbfpfniaa
