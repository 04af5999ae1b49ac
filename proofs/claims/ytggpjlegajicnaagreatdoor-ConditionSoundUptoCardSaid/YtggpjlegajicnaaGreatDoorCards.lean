/-
  DERIVED. GIVEN WITH THE SEED: THE CARDS: each row of YtggpjlegajicnaaGreatDoorRows.lean that lists a variable, with what it lists TIED to the program's text (the seventh form; the later family's looks); each row that meets fmt, with fmt's text TOLD by the authors' own Lean function (tested against real Go, not proved from fmt's source: count such statements apart). THE CARD IS WHAT COUNTS. Prove the row's statement (the work); the ties are given (YtggpjlegajicnaaGreatDoorTie.lean); close each card by the builder's one call (the guide's Derived/Test/ToyasCard.lean, 'card_holds'). Laid BY PROGRAM, IN A SANDBOX (cutbox-door.mjs). By AI agents, Wed Nov 11 2026. No macro, syntax, notation, axiom, sorry.
-/
import Derived.Test.YtggpjlegajicnaaGreatDoorRows
import GoSem.ClaimSeven
namespace Go.Proofs.YtggpjlegajicnaaGreatDoor
namespace Rows

/-- THE TIED CARD OF 'pipelinelaw17.ConditionEnv'. -/
def conditionEnvCard : Claim7 := { stood := { row := conditionEnvRow, standIns := [], harness := (true, "001784e7b294804026156fb95001621635de6c0034a22405941d48429763bc38"), looks := true }, kinds := [], alts := [], laidByText := true, laidKinds := [.data, .data, .data, .data, .sentinel, .sentinel, .pinned], laidTests := true, laidLooks := .later }
def ConditionEnvCardSaid : Prop := Claim7.holds Tryz.pinned (.plain (OpenSpec.ofChange conditionEnvSpec)) conditionEnvCard

/-- THE TIED CARD OF 'pipelinelaw17.ConditionEvals'. -/
def conditionEvalsCard : Claim7 := { stood := { row := conditionEvalsRow, standIns := [], harness := (true, "001784e7b294804026156fb95001621635de6c0034a22405941d48429763bc38"), looks := true }, kinds := [], alts := [], laidByText := true, laidKinds := [.data, .data, .data, .data, .sentinel, .sentinel, .pinned], laidTests := true, laidLooks := .later }
def ConditionEvalsCardSaid : Prop := Claim7.holds Tryz.pinned (.plain (OpenSpec.ofChange conditionEvalsSpec)) conditionEvalsCard

/-- THE TIED CARD OF 'pipelinelaw17.ConditionChecks'. -/
def conditionChecksCard : Claim7 := { stood := { row := conditionChecksRow, standIns := [], harness := (true, "001784e7b294804026156fb95001621635de6c0034a22405941d48429763bc38"), looks := true }, kinds := [], alts := [], laidByText := true, laidKinds := [.data, .data, .data, .data, .sentinel, .sentinel, .pinned], laidTests := true, laidLooks := .later }
def ConditionChecksCardSaid : Prop := Claim7.holds Tryz.pinned (.plain (OpenSpec.ofChange conditionChecksSpec)) conditionChecksCard

/-- THE TIED CARD OF 'pipelinelaw17.ConditionOrder'. -/
def conditionOrderCard : Claim7 := { stood := { row := conditionOrderRow, standIns := [], harness := (true, "001784e7b294804026156fb95001621635de6c0034a22405941d48429763bc38"), looks := true }, kinds := [], alts := [], laidByText := true, laidKinds := [.data, .data, .data, .data, .sentinel, .sentinel, .pinned], laidTests := true, laidLooks := .later }
def ConditionOrderCardSaid : Prop := Claim7.holds Tryz.pinned (.plain (OpenSpec.ofChange conditionOrderSpec)) conditionOrderCard

/-- THE TIED CARD OF 'pipelinelaw17.ConditionSummaries'. -/
def conditionSummariesCard : Claim7 := { stood := { row := conditionSummariesRow, standIns := [], harness := (true, "001784e7b294804026156fb95001621635de6c0034a22405941d48429763bc38"), looks := true }, kinds := [], alts := [], laidByText := true, laidKinds := [.data, .data, .data, .data, .sentinel, .sentinel, .pinned], laidTests := true, laidLooks := .later }
def ConditionSummariesCardSaid : Prop := Claim7.holds Tryz.pinned (.plain (OpenSpec.ofChange conditionSummariesSpec)) conditionSummariesCard

/-- THE TIED CARD OF 'pipelinelaw17.ConditionSound'. -/
def conditionSoundCard : Claim7 := { stood := { row := conditionSoundRow, standIns := [], harness := (true, "001784e7b294804026156fb95001621635de6c0034a22405941d48429763bc38"), looks := true }, kinds := [], alts := [], laidByText := true, laidKinds := [.data, .data, .data, .data, .sentinel, .sentinel, .pinned], laidTests := true, laidLooks := .later }
def ConditionSoundCardSaid : Prop := Claim7.holds Tryz.pinned (.plain (OpenSpec.ofChange conditionSoundSpec)) conditionSoundCard

/-- THE SECOND FORM's CARD OF 'pipelinelaw17.ConditionEnv'. -/
def conditionEnvUptoCard : Claim7 := { stood := { row := conditionEnvUptoRow, standIns := [], harness := (true, "001784e7b294804026156fb95001621635de6c0034a22405941d48429763bc38"), looks := true }, kinds := [], alts := [], laidByText := true, laidKinds := [.data, .data, .data, .data, .sentinel, .sentinel, .pinned], laidTests := true, laidLooks := .later }
def ConditionEnvUptoCardSaid : Prop := Claim7.holds Tryz.pinned (.plain (OpenSpec.upto conditionEnvSpec)) conditionEnvUptoCard

/-- THE SECOND FORM's CARD OF 'pipelinelaw17.ConditionEvals'. -/
def conditionEvalsUptoCard : Claim7 := { stood := { row := conditionEvalsUptoRow, standIns := [], harness := (true, "001784e7b294804026156fb95001621635de6c0034a22405941d48429763bc38"), looks := true }, kinds := [], alts := [], laidByText := true, laidKinds := [.data, .data, .data, .data, .sentinel, .sentinel, .pinned], laidTests := true, laidLooks := .later }
def ConditionEvalsUptoCardSaid : Prop := Claim7.holds Tryz.pinned (.plain (OpenSpec.upto conditionEvalsSpec)) conditionEvalsUptoCard

/-- THE SECOND FORM's CARD OF 'pipelinelaw17.ConditionChecks'. -/
def conditionChecksUptoCard : Claim7 := { stood := { row := conditionChecksUptoRow, standIns := [], harness := (true, "001784e7b294804026156fb95001621635de6c0034a22405941d48429763bc38"), looks := true }, kinds := [], alts := [], laidByText := true, laidKinds := [.data, .data, .data, .data, .sentinel, .sentinel, .pinned], laidTests := true, laidLooks := .later }
def ConditionChecksUptoCardSaid : Prop := Claim7.holds Tryz.pinned (.plain (OpenSpec.upto conditionChecksSpec)) conditionChecksUptoCard

/-- THE SECOND FORM's CARD OF 'pipelinelaw17.ConditionOrder'. -/
def conditionOrderUptoCard : Claim7 := { stood := { row := conditionOrderUptoRow, standIns := [], harness := (true, "001784e7b294804026156fb95001621635de6c0034a22405941d48429763bc38"), looks := true }, kinds := [], alts := [], laidByText := true, laidKinds := [.data, .data, .data, .data, .sentinel, .sentinel, .pinned], laidTests := true, laidLooks := .later }
def ConditionOrderUptoCardSaid : Prop := Claim7.holds Tryz.pinned (.plain (OpenSpec.upto conditionOrderSpec)) conditionOrderUptoCard

/-- THE SECOND FORM's CARD OF 'pipelinelaw17.ConditionSummaries'. -/
def conditionSummariesUptoCard : Claim7 := { stood := { row := conditionSummariesUptoRow, standIns := [], harness := (true, "001784e7b294804026156fb95001621635de6c0034a22405941d48429763bc38"), looks := true }, kinds := [], alts := [], laidByText := true, laidKinds := [.data, .data, .data, .data, .sentinel, .sentinel, .pinned], laidTests := true, laidLooks := .later }
def ConditionSummariesUptoCardSaid : Prop := Claim7.holds Tryz.pinned (.plain (OpenSpec.upto conditionSummariesSpec)) conditionSummariesUptoCard

/-- THE SECOND FORM's CARD OF 'pipelinelaw17.ConditionSound'. -/
def conditionSoundUptoCard : Claim7 := { stood := { row := conditionSoundUptoRow, standIns := [], harness := (true, "001784e7b294804026156fb95001621635de6c0034a22405941d48429763bc38"), looks := true }, kinds := [], alts := [], laidByText := true, laidKinds := [.data, .data, .data, .data, .sentinel, .sentinel, .pinned], laidTests := true, laidLooks := .later }
def ConditionSoundUptoCardSaid : Prop := Claim7.holds Tryz.pinned (.plain (OpenSpec.upto conditionSoundSpec)) conditionSoundUptoCard
end Rows
end Go.Proofs.YtggpjlegajicnaaGreatDoor
