/-
  No cell of these rows narrows 'for every input' (looked for: loops, veiled, ifaces, maps, wideKeys, modest, calm, conditions, laid).
  DERIVED. THE GIVEN ROWS OF THIS SEAT. 7 by the template 'for every input the law returns true; each argument reads behind the call as it read before'; 0 by the template 'total and deterministic' (their statements: YtbhngbjopfjacaaTotals.lean).
  GIVEN WITH THE SEED: the statements are not yours to turn. If you find one false, say at which input.
  Laid BY PROGRAM, IN A SANDBOX (cutbox-rows.mjs): the forced cells as the released guide's own fill.sh prints them over the translation 98c65f8ae6a80dd7… (all of the seat's roots in one cut). By AI agents, Wed Nov 11 2026. No macro, syntax, notation, axiom, sorry.
-/
import Derived.Test.YtbhngbjopfjacaaChecked
import GoSem.Claim
import GoSem.ClaimJoined
import GoSem.ClaimMapViews
import Derived.JoinedTies
import Derived.KernelRfl
namespace Go.Proofs.Ytbhngbjopfjacaa
/- THE CELL 'sum', in the pinned program and in every row, IS THE sha256 OF THE DUMP (.gsa) THAT YtbhngbjopfjacaaProg.lean LOADS. Nothing in Lean hashes anything: it is a label: what it is worth is what the hold of that sum in a sandbox is worth. -/
noncomputable def Try.pinned : Pinned := { name := "ytbhngbjopfjacaa", sum := "98c65f8ae6a80dd7eaa33103f77d36b6824d349830e93046351533fa79d62fd6", checked := Try.checked }
namespace Rows
def none {H : Type} : Left H := { results := [], args := [] }

/-- 'airchecklaw15.TimelineMatchesReference': WHATEVER THE INPUT: true; the input reads as it did. -/
def timelineMatchesReferenceSpec : ChangeSpec := { name := "timelineMatchesReference", fn := fun _ => fun
  | [d1, d2, d3, d4, d5, d6, d7, d8, d9, d10] => { results := [.lit (.bool true)], args := [d1, d2, d3, d4, d5, d6, d7, d8, d9, d10] }
  | _ => none }
def timelineMatchesReferenceRow : OpenClaim := { program := "ytbhngbjopfjacaa", sum := "98c65f8ae6a80dd7eaa33103f77d36b6824d349830e93046351533fa79d62fd6", func := "aircheck/airchecklaw15.TimelineMatchesReference", spec := "timelineMatchesReference", unfollowed := true, recurses := true, apart := false }
def TimelineMatchesReferenceSaid : Prop := timelineMatchesReferenceRow.holds Try.pinned (OpenSpec.ofChange timelineMatchesReferenceSpec)

/-- ITS FALSE NEIGHBOUR: 'it returns false'. Refute it at one input. -/
def timelineMatchesReferenceWrong : ChangeSpec := { name := "timelineMatchesReference", fn := fun _ => fun
  | [d1, d2, d3, d4, d5, d6, d7, d8, d9, d10] => { results := [.lit (.bool false)], args := [d1, d2, d3, d4, d5, d6, d7, d8, d9, d10] }
  | _ => none }
def TimelineMatchesReferenceWrongFalsely : Prop := timelineMatchesReferenceRow.holds Try.pinned (OpenSpec.ofChange timelineMatchesReferenceWrong)

/-- 'airchecklaw15.TimelineOne': WHATEVER THE INPUT: true; the input reads as it did. -/
def timelineOneSpec : ChangeSpec := { name := "timelineOne", fn := fun _ => fun
  | [d1, d2, d3] => { results := [.lit (.bool true)], args := [d1, d2, d3] }
  | _ => none }
def timelineOneRow : OpenClaim := { program := "ytbhngbjopfjacaa", sum := "98c65f8ae6a80dd7eaa33103f77d36b6824d349830e93046351533fa79d62fd6", func := "aircheck/airchecklaw15.TimelineOne", spec := "timelineOne", unfollowed := true, recurses := true, apart := false }
def TimelineOneSaid : Prop := timelineOneRow.holds Try.pinned (OpenSpec.ofChange timelineOneSpec)

/-- ITS FALSE NEIGHBOUR: 'it returns false'. Refute it at one input. -/
def timelineOneWrong : ChangeSpec := { name := "timelineOne", fn := fun _ => fun
  | [d1, d2, d3] => { results := [.lit (.bool false)], args := [d1, d2, d3] }
  | _ => none }
def TimelineOneWrongFalsely : Prop := timelineOneRow.holds Try.pinned (OpenSpec.ofChange timelineOneWrong)

/-- 'airchecklaw15.TimelinePut': WHATEVER THE INPUT: true; the input reads as it did. -/
def timelinePutSpec : ChangeSpec := { name := "timelinePut", fn := fun _ => fun
  | [d1, d2, d3, d4] => { results := [.lit (.bool true)], args := [d1, d2, d3, d4] }
  | _ => none }
def timelinePutRow : OpenClaim := { program := "ytbhngbjopfjacaa", sum := "98c65f8ae6a80dd7eaa33103f77d36b6824d349830e93046351533fa79d62fd6", func := "aircheck/airchecklaw15.TimelinePut", spec := "timelinePut", unfollowed := true, recurses := true, apart := false }
def TimelinePutSaid : Prop := timelinePutRow.holds Try.pinned (OpenSpec.ofChange timelinePutSpec)

/-- ITS FALSE NEIGHBOUR: 'it returns false'. Refute it at one input. -/
def timelinePutWrong : ChangeSpec := { name := "timelinePut", fn := fun _ => fun
  | [d1, d2, d3, d4] => { results := [.lit (.bool false)], args := [d1, d2, d3, d4] }
  | _ => none }
def TimelinePutWrongFalsely : Prop := timelinePutRow.holds Try.pinned (OpenSpec.ofChange timelinePutWrong)

/-- 'airchecklaw15.TimelinePaint': WHATEVER THE INPUT: true; the input reads as it did. -/
def timelinePaintSpec : ChangeSpec := { name := "timelinePaint", fn := fun _ => fun
  | [d1, d2, d3, d4] => { results := [.lit (.bool true)], args := [d1, d2, d3, d4] }
  | _ => none }
def timelinePaintRow : OpenClaim := { program := "ytbhngbjopfjacaa", sum := "98c65f8ae6a80dd7eaa33103f77d36b6824d349830e93046351533fa79d62fd6", func := "aircheck/airchecklaw15.TimelinePaint", spec := "timelinePaint", unfollowed := true, recurses := true, apart := false }
def TimelinePaintSaid : Prop := timelinePaintRow.holds Try.pinned (OpenSpec.ofChange timelinePaintSpec)

/-- ITS FALSE NEIGHBOUR: 'it returns false'. Refute it at one input. -/
def timelinePaintWrong : ChangeSpec := { name := "timelinePaint", fn := fun _ => fun
  | [d1, d2, d3, d4] => { results := [.lit (.bool false)], args := [d1, d2, d3, d4] }
  | _ => none }
def TimelinePaintWrongFalsely : Prop := timelinePaintRow.holds Try.pinned (OpenSpec.ofChange timelinePaintWrong)

/-- 'airchecklaw15.TimelineJoin': WHATEVER THE INPUT: true; the input reads as it did. -/
def timelineJoinSpec : ChangeSpec := { name := "timelineJoin", fn := fun _ => fun
  | [d1, d2, d3, d4, d5, d6] => { results := [.lit (.bool true)], args := [d1, d2, d3, d4, d5, d6] }
  | _ => none }
def timelineJoinRow : OpenClaim := { program := "ytbhngbjopfjacaa", sum := "98c65f8ae6a80dd7eaa33103f77d36b6824d349830e93046351533fa79d62fd6", func := "aircheck/airchecklaw15.TimelineJoin", spec := "timelineJoin", unfollowed := true, recurses := true, apart := false }
def TimelineJoinSaid : Prop := timelineJoinRow.holds Try.pinned (OpenSpec.ofChange timelineJoinSpec)

/-- ITS FALSE NEIGHBOUR: 'it returns false'. Refute it at one input. -/
def timelineJoinWrong : ChangeSpec := { name := "timelineJoin", fn := fun _ => fun
  | [d1, d2, d3, d4, d5, d6] => { results := [.lit (.bool false)], args := [d1, d2, d3, d4, d5, d6] }
  | _ => none }
def TimelineJoinWrongFalsely : Prop := timelineJoinRow.holds Try.pinned (OpenSpec.ofChange timelineJoinWrong)

/-- 'airchecklaw15.TimelineDiff': WHATEVER THE INPUT: true; the input reads as it did. -/
def timelineDiffSpec : ChangeSpec := { name := "timelineDiff", fn := fun _ => fun
  | [d1, d2, d3, d4] => { results := [.lit (.bool true)], args := [d1, d2, d3, d4] }
  | _ => none }
def timelineDiffRow : OpenClaim := { program := "ytbhngbjopfjacaa", sum := "98c65f8ae6a80dd7eaa33103f77d36b6824d349830e93046351533fa79d62fd6", func := "aircheck/airchecklaw15.TimelineDiff", spec := "timelineDiff", unfollowed := true, recurses := true, apart := false }
def TimelineDiffSaid : Prop := timelineDiffRow.holds Try.pinned (OpenSpec.ofChange timelineDiffSpec)

/-- ITS FALSE NEIGHBOUR: 'it returns false'. Refute it at one input. -/
def timelineDiffWrong : ChangeSpec := { name := "timelineDiff", fn := fun _ => fun
  | [d1, d2, d3, d4] => { results := [.lit (.bool false)], args := [d1, d2, d3, d4] }
  | _ => none }
def TimelineDiffWrongFalsely : Prop := timelineDiffRow.holds Try.pinned (OpenSpec.ofChange timelineDiffWrong)

/-- 'airchecklaw15.TimelineHour': WHATEVER THE INPUT: true; the input reads as it did. -/
def timelineHourSpec : ChangeSpec := { name := "timelineHour", fn := fun _ => fun
  | [d1, d2] => { results := [.lit (.bool true)], args := [d1, d2] }
  | _ => none }
def timelineHourRow : OpenClaim := { program := "ytbhngbjopfjacaa", sum := "98c65f8ae6a80dd7eaa33103f77d36b6824d349830e93046351533fa79d62fd6", func := "aircheck/airchecklaw15.TimelineHour", spec := "timelineHour", unfollowed := true, recurses := true, apart := false }
def TimelineHourSaid : Prop := timelineHourRow.holds Try.pinned (OpenSpec.ofChange timelineHourSpec)

/-- ITS FALSE NEIGHBOUR: 'it returns false'. Refute it at one input. -/
def timelineHourWrong : ChangeSpec := { name := "timelineHour", fn := fun _ => fun
  | [d1, d2] => { results := [.lit (.bool false)], args := [d1, d2] }
  | _ => none }
def TimelineHourWrongFalsely : Prop := timelineHourRow.holds Try.pinned (OpenSpec.ofChange timelineHourWrong)

/- THE SECOND FORM. 'bulk': how many values and letters a reading holds, each counted each time it is reached (what is shared counts as often as it is met; a slice's spare places count too). A statement '..UptoSaid' is the law's where the arguments, and the package variables that the reading takes, are together of bulk at most 1048576: NARROWER than '..Said'. Prove '..Said' where nothing that the law and all that it calls make is longer than what came in: it says more and counts as full. Else prove '..UptoSaid'. A law counts once. -/
mutual
def uptoBulk {H : Type} : DataW H → Nat
  | .lit (.string bytes) => bytes.length + 1
  | .lit _ => 1
  | .nil => 1
  | .ptr d => uptoBulk d + 1
  | .slice elems spare => uptoBulkAll elems + uptoBulkAll spare + 1
  | .agg parts => uptoBulkAll parts + 1
  | .iface _ d => uptoBulk d + 1
  | .map entries => uptoBulkEntries entries + 1
  | .held _ => 1
def uptoBulkAll {H : Type} : List (DataW H) → Nat
  | [] => 0
  | d :: r => uptoBulk d + uptoBulkAll r
def uptoBulkEntries {H : Type} : List (Lit × DataW H) → Nat
  | [] => 0
  | x :: r => uptoBulkEntry x + uptoBulkEntries r
def uptoBulkEntry {H : Type} : Lit × DataW H → Nat
  | (.string bytes, d) => bytes.length + uptoBulk d + 1
  | (_, d) => uptoBulk d + 1
 end
def uptoSmall : (H : Type) → List (DataW H) → Bool := fun _ ds => decide (uptoBulkAll ds ≤ 1048576)
def OpenSpec.upto (s : _root_.Go.ChangeSpec) : _root_.Go.OpenSpec := { _root_.Go.OpenSpec.ofChange s with cond := some uptoSmall }

/-- 'airchecklaw15.TimelineMatchesReference', WHERE WHAT IT READS IS OF BULK AT MOST 1048576: true; the input reads as it did. -/
def timelineMatchesReferenceUptoRow : OpenClaim := { program := "ytbhngbjopfjacaa", sum := "98c65f8ae6a80dd7eaa33103f77d36b6824d349830e93046351533fa79d62fd6", func := "aircheck/airchecklaw15.TimelineMatchesReference", spec := "timelineMatchesReference", unfollowed := true, recurses := true, apart := false, narrowed := true }
def TimelineMatchesReferenceUptoSaid : Prop := timelineMatchesReferenceUptoRow.holds Try.pinned (OpenSpec.upto timelineMatchesReferenceSpec)

/-- 'airchecklaw15.TimelineOne', WHERE WHAT IT READS IS OF BULK AT MOST 1048576: true; the input reads as it did. -/
def timelineOneUptoRow : OpenClaim := { program := "ytbhngbjopfjacaa", sum := "98c65f8ae6a80dd7eaa33103f77d36b6824d349830e93046351533fa79d62fd6", func := "aircheck/airchecklaw15.TimelineOne", spec := "timelineOne", unfollowed := true, recurses := true, apart := false, narrowed := true }
def TimelineOneUptoSaid : Prop := timelineOneUptoRow.holds Try.pinned (OpenSpec.upto timelineOneSpec)

/-- 'airchecklaw15.TimelinePut', WHERE WHAT IT READS IS OF BULK AT MOST 1048576: true; the input reads as it did. -/
def timelinePutUptoRow : OpenClaim := { program := "ytbhngbjopfjacaa", sum := "98c65f8ae6a80dd7eaa33103f77d36b6824d349830e93046351533fa79d62fd6", func := "aircheck/airchecklaw15.TimelinePut", spec := "timelinePut", unfollowed := true, recurses := true, apart := false, narrowed := true }
def TimelinePutUptoSaid : Prop := timelinePutUptoRow.holds Try.pinned (OpenSpec.upto timelinePutSpec)

/-- 'airchecklaw15.TimelinePaint', WHERE WHAT IT READS IS OF BULK AT MOST 1048576: true; the input reads as it did. -/
def timelinePaintUptoRow : OpenClaim := { program := "ytbhngbjopfjacaa", sum := "98c65f8ae6a80dd7eaa33103f77d36b6824d349830e93046351533fa79d62fd6", func := "aircheck/airchecklaw15.TimelinePaint", spec := "timelinePaint", unfollowed := true, recurses := true, apart := false, narrowed := true }
def TimelinePaintUptoSaid : Prop := timelinePaintUptoRow.holds Try.pinned (OpenSpec.upto timelinePaintSpec)

/-- 'airchecklaw15.TimelineJoin', WHERE WHAT IT READS IS OF BULK AT MOST 1048576: true; the input reads as it did. -/
def timelineJoinUptoRow : OpenClaim := { program := "ytbhngbjopfjacaa", sum := "98c65f8ae6a80dd7eaa33103f77d36b6824d349830e93046351533fa79d62fd6", func := "aircheck/airchecklaw15.TimelineJoin", spec := "timelineJoin", unfollowed := true, recurses := true, apart := false, narrowed := true }
def TimelineJoinUptoSaid : Prop := timelineJoinUptoRow.holds Try.pinned (OpenSpec.upto timelineJoinSpec)

/-- 'airchecklaw15.TimelineDiff', WHERE WHAT IT READS IS OF BULK AT MOST 1048576: true; the input reads as it did. -/
def timelineDiffUptoRow : OpenClaim := { program := "ytbhngbjopfjacaa", sum := "98c65f8ae6a80dd7eaa33103f77d36b6824d349830e93046351533fa79d62fd6", func := "aircheck/airchecklaw15.TimelineDiff", spec := "timelineDiff", unfollowed := true, recurses := true, apart := false, narrowed := true }
def TimelineDiffUptoSaid : Prop := timelineDiffUptoRow.holds Try.pinned (OpenSpec.upto timelineDiffSpec)

/-- 'airchecklaw15.TimelineHour', WHERE WHAT IT READS IS OF BULK AT MOST 1048576: true; the input reads as it did. -/
def timelineHourUptoRow : OpenClaim := { program := "ytbhngbjopfjacaa", sum := "98c65f8ae6a80dd7eaa33103f77d36b6824d349830e93046351533fa79d62fd6", func := "aircheck/airchecklaw15.TimelineHour", spec := "timelineHour", unfollowed := true, recurses := true, apart := false, narrowed := true }
def TimelineHourUptoSaid : Prop := timelineHourUptoRow.holds Try.pinned (OpenSpec.upto timelineHourSpec)

end Rows
end Go.Proofs.Ytbhngbjopfjacaa
