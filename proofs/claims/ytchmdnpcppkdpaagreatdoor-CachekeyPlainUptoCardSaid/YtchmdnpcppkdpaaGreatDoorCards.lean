/-
  DERIVED. GIVEN WITH THE SEED: THE CARDS: each row of YtchmdnpcppkdpaaGreatDoorRows.lean that lists a variable, with what it lists TIED to the program's text (the seventh form; the later family's looks); each row that meets fmt, with fmt's text TOLD by the authors' own Lean function (tested against real Go, not proved from fmt's source: count such statements apart). THE CARD IS WHAT COUNTS. Prove the row's statement (the work); the ties are given (YtchmdnpcppkdpaaGreatDoorTie.lean); close each card by the builder's one call (the guide's Derived/Test/ToyasCard.lean, 'card_holds'). Laid BY PROGRAM, IN A SANDBOX (cutbox-door.mjs). By AI agents, Wed Nov 11 2026. No macro, syntax, notation, axiom, sorry.
-/
import Derived.Test.YtchmdnpcppkdpaaGreatDoorRows
import GoSem.ClaimSeven
namespace Go.Proofs.YtchmdnpcppkdpaaGreatDoor
namespace Rows

/-- THE TIED CARD OF 'pipelinelaw32.CachekeyPlain'. -/
def cachekeyPlainCard : Claim7 := { stood := { row := cachekeyPlainRow, standIns := [], harness := (true, "ca5851d7d8cbc673014ebc34589b9285399f29462ec2ea7e52e448a13a26ac43"), looks := true }, kinds := [], alts := [], laidByText := true, laidKinds := [.data, .data, .data, .data, .sentinel, .sentinel, .pinned], laidTests := true, laidLooks := .later }
def CachekeyPlainCardSaid : Prop := Claim7.holds Tryz.pinned (.plain (OpenSpec.ofChange cachekeyPlainSpec)) cachekeyPlainCard

/-- THE SECOND FORM's CARD OF 'pipelinelaw32.CachekeyPlain'. -/
def cachekeyPlainUptoCard : Claim7 := { stood := { row := cachekeyPlainUptoRow, standIns := [], harness := (true, "ca5851d7d8cbc673014ebc34589b9285399f29462ec2ea7e52e448a13a26ac43"), looks := true }, kinds := [], alts := [], laidByText := true, laidKinds := [.data, .data, .data, .data, .sentinel, .sentinel, .pinned], laidTests := true, laidLooks := .later }
def CachekeyPlainUptoCardSaid : Prop := Claim7.holds Tryz.pinned (.plain (OpenSpec.upto cachekeyPlainSpec)) cachekeyPlainUptoCard
end Rows
end Go.Proofs.YtchmdnpcppkdpaaGreatDoor
