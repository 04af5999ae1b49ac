/-
  DERIVED. GIVEN WITH THE SEED: THE CARDS: each row of YtljfgagpnpolhaaGreatDoorRows.lean that lists a variable, with what it lists TIED to the program's text (the seventh form; the later family's looks); each row that meets fmt, with fmt's text TOLD by the authors' own Lean function (tested against real Go, not proved from fmt's source: count such statements apart). THE CARD IS WHAT COUNTS. Prove the row's statement (the work); the ties are given (YtljfgagpnpolhaaGreatDoorTie.lean); close each card by the builder's one call (the guide's Derived/Test/ToyasCard.lean, 'card_holds'). Laid BY PROGRAM, IN A SANDBOX (cutbox-door.mjs). By AI agents, Wed Nov 11 2026. No macro, syntax, notation, axiom, sorry.
-/
import Derived.Test.YtljfgagpnpolhaaGreatDoorRows
import GoSem.ClaimSeven
namespace Go.Proofs.YtljfgagpnpolhaaGreatDoor
namespace Rows

/-- THE TIED CARD OF 'pipelinelaw32.CachekeyValid'. -/
def cachekeyValidCard : Claim7 := { stood := { row := cachekeyValidRow, standIns := [], harness := (true, "30ad77c71ad88055b420ee426d910028fae84ea171222866b9e03fe4de7b295c"), looks := true }, kinds := [], alts := [], laidByText := true, laidKinds := [.data, .data, .data, .data, .sentinel, .sentinel, .pinned], laidTests := true, laidLooks := .later }
def CachekeyValidCardSaid : Prop := Claim7.holds Tryz.pinned (.plain (OpenSpec.ofChange cachekeyValidSpec)) cachekeyValidCard

/-- THE TIED CARD OF 'pipelinelaw32.CachekeyHash'. -/
def cachekeyHashCard : Claim7 := { stood := { row := cachekeyHashRow, standIns := [], harness := (true, "30ad77c71ad88055b420ee426d910028fae84ea171222866b9e03fe4de7b295c"), looks := true }, kinds := [], alts := [], laidByText := true, laidKinds := [.data, .data, .data, .data, .sentinel, .sentinel, .pinned], laidTests := true, laidLooks := .later }
def CachekeyHashCardSaid : Prop := Claim7.holds Tryz.pinned (.plain (OpenSpec.ofChange cachekeyHashSpec)) cachekeyHashCard

/-- THE TIED CARD OF 'pipelinelaw32.CachekeyFiles'. -/
def cachekeyFilesCard : Claim7 := { stood := { row := cachekeyFilesRow, standIns := [], harness := (true, "30ad77c71ad88055b420ee426d910028fae84ea171222866b9e03fe4de7b295c"), looks := true }, kinds := [], alts := [], laidByText := true, laidKinds := [.data, .data, .data, .data, .sentinel, .sentinel, .pinned], laidTests := true, laidLooks := .later }
def CachekeyFilesCardSaid : Prop := Claim7.holds Tryz.pinned (.plain (OpenSpec.ofChange cachekeyFilesSpec)) cachekeyFilesCard

/-- THE TIED CARD OF 'pipelinelaw32.CachekeyKeys'. -/
def cachekeyKeysCard : Claim7 := { stood := { row := cachekeyKeysRow, standIns := [], harness := (true, "30ad77c71ad88055b420ee426d910028fae84ea171222866b9e03fe4de7b295c"), looks := true }, kinds := [], alts := [], laidByText := true, laidKinds := [.data, .data, .data, .data, .sentinel, .sentinel, .pinned], laidTests := true, laidLooks := .later }
def CachekeyKeysCardSaid : Prop := Claim7.holds Tryz.pinned (.plain (OpenSpec.ofChange cachekeyKeysSpec)) cachekeyKeysCard

/-- THE TIED CARD OF 'pipelinelaw32.CachekeyPlain'. -/
def cachekeyPlainCard : Claim7 := { stood := { row := cachekeyPlainRow, standIns := [], harness := (true, "30ad77c71ad88055b420ee426d910028fae84ea171222866b9e03fe4de7b295c"), looks := true }, kinds := [], alts := [], laidByText := true, laidKinds := [.data, .data, .data, .data, .sentinel, .sentinel, .pinned], laidTests := true, laidLooks := .later }
def CachekeyPlainCardSaid : Prop := Claim7.holds Tryz.pinned (.plain (OpenSpec.ofChange cachekeyPlainSpec)) cachekeyPlainCard

/-- THE SECOND FORM's CARD OF 'pipelinelaw32.CachekeyValid'. -/
def cachekeyValidUptoCard : Claim7 := { stood := { row := cachekeyValidUptoRow, standIns := [], harness := (true, "30ad77c71ad88055b420ee426d910028fae84ea171222866b9e03fe4de7b295c"), looks := true }, kinds := [], alts := [], laidByText := true, laidKinds := [.data, .data, .data, .data, .sentinel, .sentinel, .pinned], laidTests := true, laidLooks := .later }
def CachekeyValidUptoCardSaid : Prop := Claim7.holds Tryz.pinned (.plain (OpenSpec.upto cachekeyValidSpec)) cachekeyValidUptoCard

/-- THE SECOND FORM's CARD OF 'pipelinelaw32.CachekeyHash'. -/
def cachekeyHashUptoCard : Claim7 := { stood := { row := cachekeyHashUptoRow, standIns := [], harness := (true, "30ad77c71ad88055b420ee426d910028fae84ea171222866b9e03fe4de7b295c"), looks := true }, kinds := [], alts := [], laidByText := true, laidKinds := [.data, .data, .data, .data, .sentinel, .sentinel, .pinned], laidTests := true, laidLooks := .later }
def CachekeyHashUptoCardSaid : Prop := Claim7.holds Tryz.pinned (.plain (OpenSpec.upto cachekeyHashSpec)) cachekeyHashUptoCard

/-- THE SECOND FORM's CARD OF 'pipelinelaw32.CachekeyFiles'. -/
def cachekeyFilesUptoCard : Claim7 := { stood := { row := cachekeyFilesUptoRow, standIns := [], harness := (true, "30ad77c71ad88055b420ee426d910028fae84ea171222866b9e03fe4de7b295c"), looks := true }, kinds := [], alts := [], laidByText := true, laidKinds := [.data, .data, .data, .data, .sentinel, .sentinel, .pinned], laidTests := true, laidLooks := .later }
def CachekeyFilesUptoCardSaid : Prop := Claim7.holds Tryz.pinned (.plain (OpenSpec.upto cachekeyFilesSpec)) cachekeyFilesUptoCard

/-- THE SECOND FORM's CARD OF 'pipelinelaw32.CachekeyKeys'. -/
def cachekeyKeysUptoCard : Claim7 := { stood := { row := cachekeyKeysUptoRow, standIns := [], harness := (true, "30ad77c71ad88055b420ee426d910028fae84ea171222866b9e03fe4de7b295c"), looks := true }, kinds := [], alts := [], laidByText := true, laidKinds := [.data, .data, .data, .data, .sentinel, .sentinel, .pinned], laidTests := true, laidLooks := .later }
def CachekeyKeysUptoCardSaid : Prop := Claim7.holds Tryz.pinned (.plain (OpenSpec.upto cachekeyKeysSpec)) cachekeyKeysUptoCard

/-- THE SECOND FORM's CARD OF 'pipelinelaw32.CachekeyPlain'. -/
def cachekeyPlainUptoCard : Claim7 := { stood := { row := cachekeyPlainUptoRow, standIns := [], harness := (true, "30ad77c71ad88055b420ee426d910028fae84ea171222866b9e03fe4de7b295c"), looks := true }, kinds := [], alts := [], laidByText := true, laidKinds := [.data, .data, .data, .data, .sentinel, .sentinel, .pinned], laidTests := true, laidLooks := .later }
def CachekeyPlainUptoCardSaid : Prop := Claim7.holds Tryz.pinned (.plain (OpenSpec.upto cachekeyPlainSpec)) cachekeyPlainUptoCard
end Rows
end Go.Proofs.YtljfgagpnpolhaaGreatDoor
