/-
  DERIVED. GIVEN WITH THE SEED: THE CARDS: each row of YtdomnihfjnbnjaaGreatDoorRows.lean that lists a variable, with what it lists TIED to the program's text (the seventh form; the later family's looks); each row that meets fmt, with fmt's text TOLD by the authors' own Lean function (tested against real Go, not proved from fmt's source: count such statements apart). THE CARD IS WHAT COUNTS. Prove the row's statement (the work); the ties are given (YtdomnihfjnbnjaaGreatDoorTie.lean); close each card by the builder's one call (the guide's Derived/Test/ToyasCard.lean, 'card_holds'). Laid BY PROGRAM, IN A SANDBOX (cutbox-door.mjs). By AI agents, Wed Nov 11 2026. No macro, syntax, notation, axiom, sorry.
-/
import Derived.Test.YtdomnihfjnbnjaaGreatDoorRows
import GoSem.ClaimSeven
namespace Go.Proofs.YtdomnihfjnbnjaaGreatDoor
namespace Rows

/-- THE TIED CARD OF 'pipelinelaw13.InterpSound'. -/
def interpSoundCard : Claim7 := { stood := { row := interpSoundRow, standIns := [], harness := (true, "f402ec709efff7b50410eedfbc688c65efea8e4313bcd86570a4e816a30135a2"), looks := true }, kinds := [], alts := [], laidByText := true, laidKinds := [.data, .data, .data, .data, .sentinel, .sentinel, .pinned], laidTests := true, laidLooks := .later }
def InterpSoundCardSaid : Prop := Claim7.holds Tryz.pinned (.plain (OpenSpec.ofChange interpSoundSpec)) interpSoundCard

/-- THE SECOND FORM's CARD OF 'pipelinelaw13.InterpSound'. -/
def interpSoundUptoCard : Claim7 := { stood := { row := interpSoundUptoRow, standIns := [], harness := (true, "f402ec709efff7b50410eedfbc688c65efea8e4313bcd86570a4e816a30135a2"), looks := true }, kinds := [], alts := [], laidByText := true, laidKinds := [.data, .data, .data, .data, .sentinel, .sentinel, .pinned], laidTests := true, laidLooks := .later }
def InterpSoundUptoCardSaid : Prop := Claim7.holds Tryz.pinned (.plain (OpenSpec.upto interpSoundSpec)) interpSoundUptoCard
end Rows
end Go.Proofs.YtdomnihfjnbnjaaGreatDoor
