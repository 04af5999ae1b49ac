/-
  DERIVED. GIVEN WITH THE SEED: THE CARDS: each row of YtfmbeoeeakojoaaGreatDoorRows.lean that lists a variable, with what it lists TIED to the program's text (the seventh form; the later family's looks); each row that meets fmt, with fmt's text TOLD by the authors' own Lean function (tested against real Go, not proved from fmt's source: count such statements apart). THE CARD IS WHAT COUNTS. Prove the row's statement (the work); the ties are given (YtfmbeoeeakojoaaGreatDoorTie.lean); close each card by the builder's one call (the guide's Derived/Test/ToyasCard.lean, 'card_holds'). Laid BY PROGRAM, IN A SANDBOX (cutbox-door.mjs). By AI agents, Wed Nov 11 2026. No macro, syntax, notation, axiom, sorry.
-/
import Derived.Test.YtfmbeoeeakojoaaGreatDoorRows
import GoSem.ClaimSeven
namespace Go.Proofs.YtfmbeoeeakojoaaGreatDoor
namespace Rows

/-- THE TIED CARD OF 'pipelinelaw11.CheckTypes'. -/
def checkTypesCard : Claim7 := { stood := { row := checkTypesRow, standIns := [], harness := (true, "414e965813af57a481a9153a1c9dad1fe4946745ada9696427cc7c3fcd08127c"), looks := true }, kinds := [], alts := [], laidByText := true, laidKinds := [.data, .data, .data, .data, .sentinel, .sentinel, .pinned], laidTests := true, laidLooks := .later }
def CheckTypesCardSaid : Prop := Claim7.holds Tryz.pinned (.plain (OpenSpec.ofChange checkTypesSpec)) checkTypesCard

/-- THE TIED CARD OF 'pipelinelaw11.CheckLiterals'. -/
def checkLiteralsCard : Claim7 := { stood := { row := checkLiteralsRow, standIns := [], harness := (true, "414e965813af57a481a9153a1c9dad1fe4946745ada9696427cc7c3fcd08127c"), looks := true }, kinds := [], alts := [], laidByText := true, laidKinds := [.data, .data, .data, .data, .sentinel, .sentinel, .pinned], laidTests := true, laidLooks := .later }
def CheckLiteralsCardSaid : Prop := Claim7.holds Tryz.pinned (.plain (OpenSpec.ofChange checkLiteralsSpec)) checkLiteralsCard

/-- THE SECOND FORM's CARD OF 'pipelinelaw11.CheckTypes'. -/
def checkTypesUptoCard : Claim7 := { stood := { row := checkTypesUptoRow, standIns := [], harness := (true, "414e965813af57a481a9153a1c9dad1fe4946745ada9696427cc7c3fcd08127c"), looks := true }, kinds := [], alts := [], laidByText := true, laidKinds := [.data, .data, .data, .data, .sentinel, .sentinel, .pinned], laidTests := true, laidLooks := .later }
def CheckTypesUptoCardSaid : Prop := Claim7.holds Tryz.pinned (.plain (OpenSpec.upto checkTypesSpec)) checkTypesUptoCard

/-- THE SECOND FORM's CARD OF 'pipelinelaw11.CheckLiterals'. -/
def checkLiteralsUptoCard : Claim7 := { stood := { row := checkLiteralsUptoRow, standIns := [], harness := (true, "414e965813af57a481a9153a1c9dad1fe4946745ada9696427cc7c3fcd08127c"), looks := true }, kinds := [], alts := [], laidByText := true, laidKinds := [.data, .data, .data, .data, .sentinel, .sentinel, .pinned], laidTests := true, laidLooks := .later }
def CheckLiteralsUptoCardSaid : Prop := Claim7.holds Tryz.pinned (.plain (OpenSpec.upto checkLiteralsSpec)) checkLiteralsUptoCard
end Rows
end Go.Proofs.YtfmbeoeeakojoaaGreatDoor
