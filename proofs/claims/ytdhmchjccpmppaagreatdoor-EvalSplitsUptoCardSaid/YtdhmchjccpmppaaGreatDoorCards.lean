/-
  DERIVED. GIVEN WITH THE SEED: THE CARDS: each row of YtdhmchjccpmppaaGreatDoorRows.lean that lists a variable, with what it lists TIED to the program's text (the seventh form; the later family's looks); each row that meets fmt, with fmt's text TOLD by the authors' own Lean function (tested against real Go, not proved from fmt's source: count such statements apart). THE CARD IS WHAT COUNTS. Prove the row's statement (the work); the ties are given (YtdhmchjccpmppaaGreatDoorTie.lean); close each card by the builder's one call (the guide's Derived/Test/ToyasCard.lean, 'card_holds'). Laid BY PROGRAM, IN A SANDBOX (cutbox-door.mjs). By AI agents, Wed Nov 11 2026. No macro, syntax, notation, axiom, sorry.
-/
import Derived.Test.YtdhmchjccpmppaaGreatDoorRows
import GoSem.ClaimSeven
namespace Go.Proofs.YtdhmchjccpmppaaGreatDoor
namespace Rows

/-- THE TIED CARD OF 'pipelinelaw12.EvalValues'. -/
def evalValuesCard : Claim7 := { stood := { row := evalValuesRow, standIns := [], harness := (true, "2bedcdce21d4894485cc6ecc9f071e185ac45573aa760aca1d252ed09dcfc9b7"), looks := true }, kinds := [], alts := [], laidByText := true, laidKinds := [.data, .data, .data, .data, .sentinel, .sentinel, .pinned], laidTests := true, laidLooks := .later }
def EvalValuesCardSaid : Prop := Claim7.holds Tryz.pinned (.plain (OpenSpec.ofChange evalValuesSpec)) evalValuesCard

/-- THE TIED CARD OF 'pipelinelaw12.EvalFolded'. -/
def evalFoldedCard : Claim7 := { stood := { row := evalFoldedRow, standIns := [], harness := (true, "2bedcdce21d4894485cc6ecc9f071e185ac45573aa760aca1d252ed09dcfc9b7"), looks := true }, kinds := [], alts := [], laidByText := true, laidKinds := [.data, .data, .data, .data, .sentinel, .sentinel, .pinned], laidTests := true, laidLooks := .later }
def EvalFoldedCardSaid : Prop := Claim7.holds Tryz.pinned (.plain (OpenSpec.ofChange evalFoldedSpec)) evalFoldedCard

/-- THE TIED CARD OF 'pipelinelaw12.EvalFolds'. -/
def evalFoldsCard : Claim7 := { stood := { row := evalFoldsRow, standIns := [], harness := (true, "2bedcdce21d4894485cc6ecc9f071e185ac45573aa760aca1d252ed09dcfc9b7"), looks := true }, kinds := [], alts := [], laidByText := true, laidKinds := [.data, .data, .data, .data, .sentinel, .sentinel, .pinned], laidTests := true, laidLooks := .later }
def EvalFoldsCardSaid : Prop := Claim7.holds Tryz.pinned (.plain (OpenSpec.ofChange evalFoldsSpec)) evalFoldsCard

/-- THE TIED CARD OF 'pipelinelaw12.EvalUnused'. -/
def evalUnusedCard : Claim7 := { stood := { row := evalUnusedRow, standIns := [], harness := (true, "2bedcdce21d4894485cc6ecc9f071e185ac45573aa760aca1d252ed09dcfc9b7"), looks := true }, kinds := [], alts := [], laidByText := true, laidKinds := [.data, .data, .data, .data, .sentinel, .sentinel, .pinned], laidTests := true, laidLooks := .later }
def EvalUnusedCardSaid : Prop := Claim7.holds Tryz.pinned (.plain (OpenSpec.ofChange evalUnusedSpec)) evalUnusedCard

/-- THE TIED CARD OF 'pipelinelaw12.EvalDivides'. -/
def evalDividesCard : Claim7 := { stood := { row := evalDividesRow, standIns := [], harness := (true, "2bedcdce21d4894485cc6ecc9f071e185ac45573aa760aca1d252ed09dcfc9b7"), looks := true }, kinds := [], alts := [], laidByText := true, laidKinds := [.data, .data, .data, .data, .sentinel, .sentinel, .pinned], laidTests := true, laidLooks := .later }
def EvalDividesCardSaid : Prop := Claim7.holds Tryz.pinned (.plain (OpenSpec.ofChange evalDividesSpec)) evalDividesCard

/-- THE TIED CARD OF 'pipelinelaw12.EvalMorgan'. -/
def evalMorganCard : Claim7 := { stood := { row := evalMorganRow, standIns := [], harness := (true, "2bedcdce21d4894485cc6ecc9f071e185ac45573aa760aca1d252ed09dcfc9b7"), looks := true }, kinds := [], alts := [], laidByText := true, laidKinds := [.data, .data, .data, .data, .sentinel, .sentinel, .pinned], laidTests := true, laidLooks := .later }
def EvalMorganCardSaid : Prop := Claim7.holds Tryz.pinned (.plain (OpenSpec.ofChange evalMorganSpec)) evalMorganCard

/-- THE TIED CARD OF 'pipelinelaw12.EvalSplits'. -/
def evalSplitsCard : Claim7 := { stood := { row := evalSplitsRow, standIns := [], harness := (true, "2bedcdce21d4894485cc6ecc9f071e185ac45573aa760aca1d252ed09dcfc9b7"), looks := true }, kinds := [], alts := [], laidByText := true, laidKinds := [.data, .data, .data, .data, .sentinel, .sentinel, .pinned], laidTests := true, laidLooks := .later }
def EvalSplitsCardSaid : Prop := Claim7.holds Tryz.pinned (.plain (OpenSpec.ofChange evalSplitsSpec)) evalSplitsCard

/-- THE TIED CARD OF 'pipelinelaw11.CheckSound'. -/
def checkSoundCard : Claim7 := { stood := { row := checkSoundRow, standIns := [], harness := (true, "2bedcdce21d4894485cc6ecc9f071e185ac45573aa760aca1d252ed09dcfc9b7"), looks := true }, kinds := [], alts := [], laidByText := true, laidKinds := [.data, .data, .data, .data, .sentinel, .sentinel, .pinned], laidTests := true, laidLooks := .later }
def CheckSoundCardSaid : Prop := Claim7.holds Tryz.pinned (.plain (OpenSpec.ofChange checkSoundSpec)) checkSoundCard

/-- THE SECOND FORM's CARD OF 'pipelinelaw12.EvalValues'. -/
def evalValuesUptoCard : Claim7 := { stood := { row := evalValuesUptoRow, standIns := [], harness := (true, "2bedcdce21d4894485cc6ecc9f071e185ac45573aa760aca1d252ed09dcfc9b7"), looks := true }, kinds := [], alts := [], laidByText := true, laidKinds := [.data, .data, .data, .data, .sentinel, .sentinel, .pinned], laidTests := true, laidLooks := .later }
def EvalValuesUptoCardSaid : Prop := Claim7.holds Tryz.pinned (.plain (OpenSpec.upto evalValuesSpec)) evalValuesUptoCard

/-- THE SECOND FORM's CARD OF 'pipelinelaw12.EvalFolded'. -/
def evalFoldedUptoCard : Claim7 := { stood := { row := evalFoldedUptoRow, standIns := [], harness := (true, "2bedcdce21d4894485cc6ecc9f071e185ac45573aa760aca1d252ed09dcfc9b7"), looks := true }, kinds := [], alts := [], laidByText := true, laidKinds := [.data, .data, .data, .data, .sentinel, .sentinel, .pinned], laidTests := true, laidLooks := .later }
def EvalFoldedUptoCardSaid : Prop := Claim7.holds Tryz.pinned (.plain (OpenSpec.upto evalFoldedSpec)) evalFoldedUptoCard

/-- THE SECOND FORM's CARD OF 'pipelinelaw12.EvalFolds'. -/
def evalFoldsUptoCard : Claim7 := { stood := { row := evalFoldsUptoRow, standIns := [], harness := (true, "2bedcdce21d4894485cc6ecc9f071e185ac45573aa760aca1d252ed09dcfc9b7"), looks := true }, kinds := [], alts := [], laidByText := true, laidKinds := [.data, .data, .data, .data, .sentinel, .sentinel, .pinned], laidTests := true, laidLooks := .later }
def EvalFoldsUptoCardSaid : Prop := Claim7.holds Tryz.pinned (.plain (OpenSpec.upto evalFoldsSpec)) evalFoldsUptoCard

/-- THE SECOND FORM's CARD OF 'pipelinelaw12.EvalUnused'. -/
def evalUnusedUptoCard : Claim7 := { stood := { row := evalUnusedUptoRow, standIns := [], harness := (true, "2bedcdce21d4894485cc6ecc9f071e185ac45573aa760aca1d252ed09dcfc9b7"), looks := true }, kinds := [], alts := [], laidByText := true, laidKinds := [.data, .data, .data, .data, .sentinel, .sentinel, .pinned], laidTests := true, laidLooks := .later }
def EvalUnusedUptoCardSaid : Prop := Claim7.holds Tryz.pinned (.plain (OpenSpec.upto evalUnusedSpec)) evalUnusedUptoCard

/-- THE SECOND FORM's CARD OF 'pipelinelaw12.EvalDivides'. -/
def evalDividesUptoCard : Claim7 := { stood := { row := evalDividesUptoRow, standIns := [], harness := (true, "2bedcdce21d4894485cc6ecc9f071e185ac45573aa760aca1d252ed09dcfc9b7"), looks := true }, kinds := [], alts := [], laidByText := true, laidKinds := [.data, .data, .data, .data, .sentinel, .sentinel, .pinned], laidTests := true, laidLooks := .later }
def EvalDividesUptoCardSaid : Prop := Claim7.holds Tryz.pinned (.plain (OpenSpec.upto evalDividesSpec)) evalDividesUptoCard

/-- THE SECOND FORM's CARD OF 'pipelinelaw12.EvalMorgan'. -/
def evalMorganUptoCard : Claim7 := { stood := { row := evalMorganUptoRow, standIns := [], harness := (true, "2bedcdce21d4894485cc6ecc9f071e185ac45573aa760aca1d252ed09dcfc9b7"), looks := true }, kinds := [], alts := [], laidByText := true, laidKinds := [.data, .data, .data, .data, .sentinel, .sentinel, .pinned], laidTests := true, laidLooks := .later }
def EvalMorganUptoCardSaid : Prop := Claim7.holds Tryz.pinned (.plain (OpenSpec.upto evalMorganSpec)) evalMorganUptoCard

/-- THE SECOND FORM's CARD OF 'pipelinelaw12.EvalSplits'. -/
def evalSplitsUptoCard : Claim7 := { stood := { row := evalSplitsUptoRow, standIns := [], harness := (true, "2bedcdce21d4894485cc6ecc9f071e185ac45573aa760aca1d252ed09dcfc9b7"), looks := true }, kinds := [], alts := [], laidByText := true, laidKinds := [.data, .data, .data, .data, .sentinel, .sentinel, .pinned], laidTests := true, laidLooks := .later }
def EvalSplitsUptoCardSaid : Prop := Claim7.holds Tryz.pinned (.plain (OpenSpec.upto evalSplitsSpec)) evalSplitsUptoCard

/-- THE SECOND FORM's CARD OF 'pipelinelaw11.CheckSound'. -/
def checkSoundUptoCard : Claim7 := { stood := { row := checkSoundUptoRow, standIns := [], harness := (true, "2bedcdce21d4894485cc6ecc9f071e185ac45573aa760aca1d252ed09dcfc9b7"), looks := true }, kinds := [], alts := [], laidByText := true, laidKinds := [.data, .data, .data, .data, .sentinel, .sentinel, .pinned], laidTests := true, laidLooks := .later }
def CheckSoundUptoCardSaid : Prop := Claim7.holds Tryz.pinned (.plain (OpenSpec.upto checkSoundSpec)) checkSoundUptoCard
end Rows
end Go.Proofs.YtdhmchjccpmppaaGreatDoor
