/-
  DERIVED. GIVEN WITH THE SEED: THE CARDS: each row of YtcohpegjnpcgcaaGreatDoorRows.lean that lists a variable, with what it lists TIED to the program's text (the seventh form; the later family's looks); each row that meets fmt, with fmt's text TOLD by the authors' own Lean function (tested against real Go, not proved from fmt's source: count such statements apart). THE CARD IS WHAT COUNTS. Prove the row's statement (the work); the ties are given (YtcohpegjnpcgcaaGreatDoorTie.lean); close each card by the builder's one call (the guide's Derived/Test/ToyasCard.lean, 'card_holds'). Laid BY PROGRAM, IN A SANDBOX (cutbox-door.mjs). By AI agents, Wed Nov 11 2026. No macro, syntax, notation, axiom, sorry.
-/
import Derived.Test.YtcohpegjnpcgcaaGreatDoorRows
import GoSem.ClaimSeven
namespace Go.Proofs.YtcohpegjnpcgcaaGreatDoor
namespace Rows

/-- THE TIED CARD OF 'pipelinelaw15.TemplateBinds'. -/
def templateBindsCard : Claim7 := { stood := { row := templateBindsRow, standIns := [], harness := (true, "55b84dd519c8821e77feb66026ee6757f65f123cf2a965df30093c8141829a76"), looks := true }, kinds := [], alts := [], laidByText := true, laidKinds := [.data, .data, .data, .data, .sentinel, .sentinel, .pinned], laidTests := true, laidLooks := .later }
def TemplateBindsCardSaid : Prop := Claim7.holds Tryz.pinned (.plain (OpenSpec.ofChange templateBindsSpec)) templateBindsCard

/-- THE TIED CARD OF 'pipelinelaw15.TemplateNests'. -/
def templateNestsCard : Claim7 := { stood := { row := templateNestsRow, standIns := [], harness := (true, "55b84dd519c8821e77feb66026ee6757f65f123cf2a965df30093c8141829a76"), looks := true }, kinds := [], alts := [], laidByText := true, laidKinds := [.data, .data, .data, .data, .sentinel, .sentinel, .pinned], laidTests := true, laidLooks := .later }
def TemplateNestsCardSaid : Prop := Claim7.holds Tryz.pinned (.plain (OpenSpec.ofChange templateNestsSpec)) templateNestsCard

/-- THE TIED CARD OF 'pipelinelaw15.TemplateValues'. -/
def templateValuesCard : Claim7 := { stood := { row := templateValuesRow, standIns := [], harness := (true, "55b84dd519c8821e77feb66026ee6757f65f123cf2a965df30093c8141829a76"), looks := true }, kinds := [], alts := [], laidByText := true, laidKinds := [.data, .data, .data, .data, .sentinel, .sentinel, .pinned], laidTests := true, laidLooks := .later }
def TemplateValuesCardSaid : Prop := Claim7.holds Tryz.pinned (.plain (OpenSpec.ofChange templateValuesSpec)) templateValuesCard

/-- THE SECOND FORM's CARD OF 'pipelinelaw15.TemplateBinds'. -/
def templateBindsUptoCard : Claim7 := { stood := { row := templateBindsUptoRow, standIns := [], harness := (true, "55b84dd519c8821e77feb66026ee6757f65f123cf2a965df30093c8141829a76"), looks := true }, kinds := [], alts := [], laidByText := true, laidKinds := [.data, .data, .data, .data, .sentinel, .sentinel, .pinned], laidTests := true, laidLooks := .later }
def TemplateBindsUptoCardSaid : Prop := Claim7.holds Tryz.pinned (.plain (OpenSpec.upto templateBindsSpec)) templateBindsUptoCard

/-- THE SECOND FORM's CARD OF 'pipelinelaw15.TemplateNests'. -/
def templateNestsUptoCard : Claim7 := { stood := { row := templateNestsUptoRow, standIns := [], harness := (true, "55b84dd519c8821e77feb66026ee6757f65f123cf2a965df30093c8141829a76"), looks := true }, kinds := [], alts := [], laidByText := true, laidKinds := [.data, .data, .data, .data, .sentinel, .sentinel, .pinned], laidTests := true, laidLooks := .later }
def TemplateNestsUptoCardSaid : Prop := Claim7.holds Tryz.pinned (.plain (OpenSpec.upto templateNestsSpec)) templateNestsUptoCard

/-- THE SECOND FORM's CARD OF 'pipelinelaw15.TemplateValues'. -/
def templateValuesUptoCard : Claim7 := { stood := { row := templateValuesUptoRow, standIns := [], harness := (true, "55b84dd519c8821e77feb66026ee6757f65f123cf2a965df30093c8141829a76"), looks := true }, kinds := [], alts := [], laidByText := true, laidKinds := [.data, .data, .data, .data, .sentinel, .sentinel, .pinned], laidTests := true, laidLooks := .later }
def TemplateValuesUptoCardSaid : Prop := Claim7.holds Tryz.pinned (.plain (OpenSpec.upto templateValuesSpec)) templateValuesUptoCard
end Rows
end Go.Proofs.YtcohpegjnpcgcaaGreatDoor
