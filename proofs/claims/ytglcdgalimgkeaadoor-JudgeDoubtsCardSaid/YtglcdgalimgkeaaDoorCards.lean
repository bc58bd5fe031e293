/-
  DERIVED. GIVEN WITH THE SEED: THE CARDS: each row of YtglcdgalimgkeaaDoorRows.lean that lists a variable, with what it lists TIED to the program's text (the seventh form; the later family's looks); each row that meets fmt, with fmt's text TOLD by the authors' own Lean function (tested against real Go, not proved from fmt's source: count such statements apart). THE CARD IS WHAT COUNTS. Prove the row's statement (the work); the ties are given (YtglcdgalimgkeaaDoorTie.lean); close each card by the builder's one call (the guide's Derived/Test/ToyasCard.lean, 'card_holds'). Laid BY PROGRAM, IN A SANDBOX (cutbox-door.mjs). By AI agents, Wed Nov 11 2026. No macro, syntax, notation, axiom, sorry.
-/
import Derived.Test.YtglcdgalimgkeaaDoorRows
import GoSem.ClaimSeven
namespace Go.Proofs.YtglcdgalimgkeaaDoor
namespace Rows

/-- THE TIED CARD OF 'airchecklaw38.JudgeMatchesReference'. -/
def judgeMatchesReferenceCard : Claim7 := { stood := { row := judgeMatchesReferenceRow, standIns := [], harness := (true, "b3effb5cb0d34f7131a1bce53d44e9950f0396d567c42ad418f15c9326d54ac4"), looks := false }, kinds := [], alts := [], laidByText := true, laidKinds := [.funcs], laidTests := true, laidLooks := .later }
def JudgeMatchesReferenceCardSaid : Prop := Claim7.holds Tryd.pinned (.plain (OpenSpec.ofChange judgeMatchesReferenceSpec)) judgeMatchesReferenceCard

/-- THE TIED CARD OF 'airchecklaw38.JudgeDoubts'. -/
def judgeDoubtsCard : Claim7 := { stood := { row := judgeDoubtsRow, standIns := [], harness := (true, "b3effb5cb0d34f7131a1bce53d44e9950f0396d567c42ad418f15c9326d54ac4"), looks := false }, kinds := [], alts := [], laidByText := true, laidKinds := [.funcs], laidTests := true, laidLooks := .later }
def JudgeDoubtsCardSaid : Prop := Claim7.holds Tryd.pinned (.plain (OpenSpec.ofChange judgeDoubtsSpec)) judgeDoubtsCard

/-- THE TIED CARD OF 'airchecklaw38.JudgeLogs'. -/
def judgeLogsCard : Claim7 := { stood := { row := judgeLogsRow, standIns := [], harness := (true, "b3effb5cb0d34f7131a1bce53d44e9950f0396d567c42ad418f15c9326d54ac4"), looks := false }, kinds := [], alts := [], laidByText := true, laidKinds := [.funcs], laidTests := true, laidLooks := .later }
def JudgeLogsCardSaid : Prop := Claim7.holds Tryd.pinned (.plain (OpenSpec.ofChange judgeLogsSpec)) judgeLogsCard

/-- THE TIED CARD OF 'airchecklaw38.JudgeReasons'. -/
def judgeReasonsCard : Claim7 := { stood := { row := judgeReasonsRow, standIns := [], harness := (true, "b3effb5cb0d34f7131a1bce53d44e9950f0396d567c42ad418f15c9326d54ac4"), looks := false }, kinds := [], alts := [], laidByText := true, laidKinds := [.funcs], laidTests := true, laidLooks := .later }
def JudgeReasonsCardSaid : Prop := Claim7.holds Tryd.pinned (.plain (OpenSpec.ofChange judgeReasonsSpec)) judgeReasonsCard

/-- THE TIED CARD OF 'airchecklaw38.JudgeDiffers'. -/
def judgeDiffersCard : Claim7 := { stood := { row := judgeDiffersRow, standIns := [], harness := (true, "b3effb5cb0d34f7131a1bce53d44e9950f0396d567c42ad418f15c9326d54ac4"), looks := false }, kinds := [], alts := [], laidByText := true, laidKinds := [.funcs], laidTests := true, laidLooks := .later }
def JudgeDiffersCardSaid : Prop := Claim7.holds Tryd.pinned (.plain (OpenSpec.ofChange judgeDiffersSpec)) judgeDiffersCard

/-- THE TIED CARD OF 'airchecklaw38.JudgeProves'. -/
def judgeProvesCard : Claim7 := { stood := { row := judgeProvesRow, standIns := [], harness := (true, "b3effb5cb0d34f7131a1bce53d44e9950f0396d567c42ad418f15c9326d54ac4"), looks := false }, kinds := [], alts := [], laidByText := true, laidKinds := [.funcs], laidTests := true, laidLooks := .later }
def JudgeProvesCardSaid : Prop := Claim7.holds Tryd.pinned (.plain (OpenSpec.ofChange judgeProvesSpec)) judgeProvesCard

/-- THE TIED CARD OF 'airchecklaw38.JudgeTruth'. -/
def judgeTruthCard : Claim7 := { stood := { row := judgeTruthRow, standIns := [], harness := (true, "b3effb5cb0d34f7131a1bce53d44e9950f0396d567c42ad418f15c9326d54ac4"), looks := false }, kinds := [], alts := [], laidByText := true, laidKinds := [.data, .funcs], laidTests := true, laidLooks := .later }
def JudgeTruthCardSaid : Prop := Claim7.holds Tryd.pinned (.plain (OpenSpec.ofChange judgeTruthSpec)) judgeTruthCard

/-- THE SECOND FORM's CARD OF 'airchecklaw38.JudgeMatchesReference'. -/
def judgeMatchesReferenceUptoCard : Claim7 := { stood := { row := judgeMatchesReferenceUptoRow, standIns := [], harness := (true, "b3effb5cb0d34f7131a1bce53d44e9950f0396d567c42ad418f15c9326d54ac4"), looks := false }, kinds := [], alts := [], laidByText := true, laidKinds := [.funcs], laidTests := true, laidLooks := .later }
def JudgeMatchesReferenceUptoCardSaid : Prop := Claim7.holds Tryd.pinned (.plain (OpenSpec.upto judgeMatchesReferenceSpec)) judgeMatchesReferenceUptoCard

/-- THE SECOND FORM's CARD OF 'airchecklaw38.JudgeDoubts'. -/
def judgeDoubtsUptoCard : Claim7 := { stood := { row := judgeDoubtsUptoRow, standIns := [], harness := (true, "b3effb5cb0d34f7131a1bce53d44e9950f0396d567c42ad418f15c9326d54ac4"), looks := false }, kinds := [], alts := [], laidByText := true, laidKinds := [.funcs], laidTests := true, laidLooks := .later }
def JudgeDoubtsUptoCardSaid : Prop := Claim7.holds Tryd.pinned (.plain (OpenSpec.upto judgeDoubtsSpec)) judgeDoubtsUptoCard

/-- THE SECOND FORM's CARD OF 'airchecklaw38.JudgeLogs'. -/
def judgeLogsUptoCard : Claim7 := { stood := { row := judgeLogsUptoRow, standIns := [], harness := (true, "b3effb5cb0d34f7131a1bce53d44e9950f0396d567c42ad418f15c9326d54ac4"), looks := false }, kinds := [], alts := [], laidByText := true, laidKinds := [.funcs], laidTests := true, laidLooks := .later }
def JudgeLogsUptoCardSaid : Prop := Claim7.holds Tryd.pinned (.plain (OpenSpec.upto judgeLogsSpec)) judgeLogsUptoCard

/-- THE SECOND FORM's CARD OF 'airchecklaw38.JudgeReasons'. -/
def judgeReasonsUptoCard : Claim7 := { stood := { row := judgeReasonsUptoRow, standIns := [], harness := (true, "b3effb5cb0d34f7131a1bce53d44e9950f0396d567c42ad418f15c9326d54ac4"), looks := false }, kinds := [], alts := [], laidByText := true, laidKinds := [.funcs], laidTests := true, laidLooks := .later }
def JudgeReasonsUptoCardSaid : Prop := Claim7.holds Tryd.pinned (.plain (OpenSpec.upto judgeReasonsSpec)) judgeReasonsUptoCard

/-- THE SECOND FORM's CARD OF 'airchecklaw38.JudgeDiffers'. -/
def judgeDiffersUptoCard : Claim7 := { stood := { row := judgeDiffersUptoRow, standIns := [], harness := (true, "b3effb5cb0d34f7131a1bce53d44e9950f0396d567c42ad418f15c9326d54ac4"), looks := false }, kinds := [], alts := [], laidByText := true, laidKinds := [.funcs], laidTests := true, laidLooks := .later }
def JudgeDiffersUptoCardSaid : Prop := Claim7.holds Tryd.pinned (.plain (OpenSpec.upto judgeDiffersSpec)) judgeDiffersUptoCard

/-- THE SECOND FORM's CARD OF 'airchecklaw38.JudgeProves'. -/
def judgeProvesUptoCard : Claim7 := { stood := { row := judgeProvesUptoRow, standIns := [], harness := (true, "b3effb5cb0d34f7131a1bce53d44e9950f0396d567c42ad418f15c9326d54ac4"), looks := false }, kinds := [], alts := [], laidByText := true, laidKinds := [.funcs], laidTests := true, laidLooks := .later }
def JudgeProvesUptoCardSaid : Prop := Claim7.holds Tryd.pinned (.plain (OpenSpec.upto judgeProvesSpec)) judgeProvesUptoCard

/-- THE SECOND FORM's CARD OF 'airchecklaw38.JudgeTruth'. -/
def judgeTruthUptoCard : Claim7 := { stood := { row := judgeTruthUptoRow, standIns := [], harness := (true, "b3effb5cb0d34f7131a1bce53d44e9950f0396d567c42ad418f15c9326d54ac4"), looks := false }, kinds := [], alts := [], laidByText := true, laidKinds := [.data, .funcs], laidTests := true, laidLooks := .later }
def JudgeTruthUptoCardSaid : Prop := Claim7.holds Tryd.pinned (.plain (OpenSpec.upto judgeTruthSpec)) judgeTruthUptoCard
end Rows
end Go.Proofs.YtglcdgalimgkeaaDoor
