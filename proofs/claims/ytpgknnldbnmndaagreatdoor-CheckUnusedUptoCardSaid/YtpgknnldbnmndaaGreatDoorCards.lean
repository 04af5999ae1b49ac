/-
  DERIVED. GIVEN WITH THE SEED: THE CARDS: each row of YtpgknnldbnmndaaGreatDoorRows.lean that lists a variable, with what it lists TIED to the program's text (the seventh form; the later family's looks); each row that meets fmt, with fmt's text TOLD by the authors' own Lean function (tested against real Go, not proved from fmt's source: count such statements apart). THE CARD IS WHAT COUNTS. Prove the row's statement (the work); the ties are given (YtpgknnldbnmndaaGreatDoorTie.lean); close each card by the builder's one call (the guide's Derived/Test/ToyasCard.lean, 'card_holds'). Laid BY PROGRAM, IN A SANDBOX (cutbox-door.mjs). By AI agents, Wed Nov 11 2026. No macro, syntax, notation, axiom, sorry.
-/
import Derived.Test.YtpgknnldbnmndaaGreatDoorRows
import GoSem.ClaimSeven
namespace Go.Proofs.YtpgknnldbnmndaaGreatDoor
namespace Rows

/-- THE TIED CARD OF 'pipelinelaw11.CheckNames'. -/
def checkNamesCard : Claim7 := { stood := { row := checkNamesRow, standIns := [], harness := (true, "f5f5a80536af9ad98d3c7e0aaf7a076aa26e0f4de4770ede32784f91e2a0175b"), looks := true }, kinds := [], alts := [], laidByText := true, laidKinds := [.data, .data, .data, .data, .sentinel, .sentinel, .pinned], laidTests := true, laidLooks := .later }
def CheckNamesCardSaid : Prop := Claim7.holds Tryz.pinned (.plain (OpenSpec.ofChange checkNamesSpec)) checkNamesCard

/-- THE TIED CARD OF 'pipelinelaw11.CheckUnused'. -/
def checkUnusedCard : Claim7 := { stood := { row := checkUnusedRow, standIns := [], harness := (true, "f5f5a80536af9ad98d3c7e0aaf7a076aa26e0f4de4770ede32784f91e2a0175b"), looks := true }, kinds := [], alts := [], laidByText := true, laidKinds := [.data, .data, .data, .data, .sentinel, .sentinel, .pinned], laidTests := true, laidLooks := .later }
def CheckUnusedCardSaid : Prop := Claim7.holds Tryz.pinned (.plain (OpenSpec.ofChange checkUnusedSpec)) checkUnusedCard

/-- THE SECOND FORM's CARD OF 'pipelinelaw11.CheckNames'. -/
def checkNamesUptoCard : Claim7 := { stood := { row := checkNamesUptoRow, standIns := [], harness := (true, "f5f5a80536af9ad98d3c7e0aaf7a076aa26e0f4de4770ede32784f91e2a0175b"), looks := true }, kinds := [], alts := [], laidByText := true, laidKinds := [.data, .data, .data, .data, .sentinel, .sentinel, .pinned], laidTests := true, laidLooks := .later }
def CheckNamesUptoCardSaid : Prop := Claim7.holds Tryz.pinned (.plain (OpenSpec.upto checkNamesSpec)) checkNamesUptoCard

/-- THE SECOND FORM's CARD OF 'pipelinelaw11.CheckUnused'. -/
def checkUnusedUptoCard : Claim7 := { stood := { row := checkUnusedUptoRow, standIns := [], harness := (true, "f5f5a80536af9ad98d3c7e0aaf7a076aa26e0f4de4770ede32784f91e2a0175b"), looks := true }, kinds := [], alts := [], laidByText := true, laidKinds := [.data, .data, .data, .data, .sentinel, .sentinel, .pinned], laidTests := true, laidLooks := .later }
def CheckUnusedUptoCardSaid : Prop := Claim7.holds Tryz.pinned (.plain (OpenSpec.upto checkUnusedSpec)) checkUnusedUptoCard
end Rows
end Go.Proofs.YtpgknnldbnmndaaGreatDoor
