/-
  DERIVED. GIVEN WITH THE SEED: THE CARDS: each row of YtpbjbkhfpjckoaaGreatDoorRows.lean that lists a variable, with what it lists TIED to the program's text (the seventh form; the later family's looks); each row that meets fmt, with fmt's text TOLD by the authors' own Lean function (tested against real Go, not proved from fmt's source: count such statements apart). THE CARD IS WHAT COUNTS. Prove the row's statement (the work); the ties are given (YtpbjbkhfpjckoaaGreatDoorTie.lean); close each card by the builder's one call (the guide's Derived/Test/ToyasCard.lean, 'card_holds'). Laid BY PROGRAM, IN A SANDBOX (cutbox-door.mjs). By AI agents, Wed Nov 11 2026. No macro, syntax, notation, axiom, sorry.
-/
import Derived.Test.YtpbjbkhfpjckoaaGreatDoorRows
import GoSem.ClaimSeven
namespace Go.Proofs.YtpbjbkhfpjckoaaGreatDoor
namespace Rows

/-- THE TIED CARD OF 'pipelinelaw13.InterpParts'. -/
def interpPartsCard : Claim7 := { stood := { row := interpPartsRow, standIns := [], harness := (true, "711fc9d7c522bf19c76ca25b66ef17a6ba40231a562b959f26f3294a7efd9683"), looks := true }, kinds := [], alts := [], laidByText := true, laidKinds := [.data, .data, .data, .data, .sentinel, .sentinel, .pinned], laidTests := true, laidLooks := .later }
def InterpPartsCardSaid : Prop := Claim7.holds Tryz.pinned (.plain (OpenSpec.ofChange interpPartsSpec)) interpPartsCard

/-- THE TIED CARD OF 'pipelinelaw13.InterpShows'. -/
def interpShowsCard : Claim7 := { stood := { row := interpShowsRow, standIns := [], harness := (true, "711fc9d7c522bf19c76ca25b66ef17a6ba40231a562b959f26f3294a7efd9683"), looks := true }, kinds := [], alts := [], laidByText := true, laidKinds := [.data, .data, .data, .data, .sentinel, .sentinel, .pinned], laidTests := true, laidLooks := .later }
def InterpShowsCardSaid : Prop := Claim7.holds Tryz.pinned (.plain (OpenSpec.ofChange interpShowsSpec)) interpShowsCard

/-- THE TIED CARD OF 'pipelinelaw13.InterpExpands'. -/
def interpExpandsCard : Claim7 := { stood := { row := interpExpandsRow, standIns := [], harness := (true, "711fc9d7c522bf19c76ca25b66ef17a6ba40231a562b959f26f3294a7efd9683"), looks := true }, kinds := [], alts := [], laidByText := true, laidKinds := [.data, .data, .data, .data, .sentinel, .sentinel, .pinned], laidTests := true, laidLooks := .later }
def InterpExpandsCardSaid : Prop := Claim7.holds Tryz.pinned (.plain (OpenSpec.ofChange interpExpandsSpec)) interpExpandsCard

/-- THE TIED CARD OF 'pipelinelaw13.InterpChecks'. -/
def interpChecksCard : Claim7 := { stood := { row := interpChecksRow, standIns := [], harness := (true, "711fc9d7c522bf19c76ca25b66ef17a6ba40231a562b959f26f3294a7efd9683"), looks := true }, kinds := [], alts := [], laidByText := true, laidKinds := [.data, .data, .data, .data, .sentinel, .sentinel, .pinned], laidTests := true, laidLooks := .later }
def InterpChecksCardSaid : Prop := Claim7.holds Tryz.pinned (.plain (OpenSpec.ofChange interpChecksSpec)) interpChecksCard

/-- THE TIED CARD OF 'pipelinelaw13.InterpBack'. -/
def interpBackCard : Claim7 := { stood := { row := interpBackRow, standIns := [], harness := (true, "711fc9d7c522bf19c76ca25b66ef17a6ba40231a562b959f26f3294a7efd9683"), looks := true }, kinds := [], alts := [], laidByText := true, laidKinds := [.data, .data, .data, .data, .sentinel, .sentinel, .pinned], laidTests := true, laidLooks := .later }
def InterpBackCardSaid : Prop := Claim7.holds Tryz.pinned (.plain (OpenSpec.ofChange interpBackSpec)) interpBackCard

/-- THE TIED CARD OF 'pipelinelaw13.InterpSound'. -/
def interpSoundCard : Claim7 := { stood := { row := interpSoundRow, standIns := [], harness := (true, "711fc9d7c522bf19c76ca25b66ef17a6ba40231a562b959f26f3294a7efd9683"), looks := true }, kinds := [], alts := [], laidByText := true, laidKinds := [.data, .data, .data, .data, .sentinel, .sentinel, .pinned], laidTests := true, laidLooks := .later }
def InterpSoundCardSaid : Prop := Claim7.holds Tryz.pinned (.plain (OpenSpec.ofChange interpSoundSpec)) interpSoundCard

/-- THE TIED CARD OF 'pipelinelaw13.InterpJoins'. -/
def interpJoinsCard : Claim7 := { stood := { row := interpJoinsRow, standIns := [], harness := (true, "711fc9d7c522bf19c76ca25b66ef17a6ba40231a562b959f26f3294a7efd9683"), looks := true }, kinds := [], alts := [], laidByText := true, laidKinds := [.data, .data, .data, .data, .sentinel, .sentinel, .pinned], laidTests := true, laidLooks := .later }
def InterpJoinsCardSaid : Prop := Claim7.holds Tryz.pinned (.plain (OpenSpec.ofChange interpJoinsSpec)) interpJoinsCard

/-- THE SECOND FORM's CARD OF 'pipelinelaw13.InterpParts'. -/
def interpPartsUptoCard : Claim7 := { stood := { row := interpPartsUptoRow, standIns := [], harness := (true, "711fc9d7c522bf19c76ca25b66ef17a6ba40231a562b959f26f3294a7efd9683"), looks := true }, kinds := [], alts := [], laidByText := true, laidKinds := [.data, .data, .data, .data, .sentinel, .sentinel, .pinned], laidTests := true, laidLooks := .later }
def InterpPartsUptoCardSaid : Prop := Claim7.holds Tryz.pinned (.plain (OpenSpec.upto interpPartsSpec)) interpPartsUptoCard

/-- THE SECOND FORM's CARD OF 'pipelinelaw13.InterpShows'. -/
def interpShowsUptoCard : Claim7 := { stood := { row := interpShowsUptoRow, standIns := [], harness := (true, "711fc9d7c522bf19c76ca25b66ef17a6ba40231a562b959f26f3294a7efd9683"), looks := true }, kinds := [], alts := [], laidByText := true, laidKinds := [.data, .data, .data, .data, .sentinel, .sentinel, .pinned], laidTests := true, laidLooks := .later }
def InterpShowsUptoCardSaid : Prop := Claim7.holds Tryz.pinned (.plain (OpenSpec.upto interpShowsSpec)) interpShowsUptoCard

/-- THE SECOND FORM's CARD OF 'pipelinelaw13.InterpExpands'. -/
def interpExpandsUptoCard : Claim7 := { stood := { row := interpExpandsUptoRow, standIns := [], harness := (true, "711fc9d7c522bf19c76ca25b66ef17a6ba40231a562b959f26f3294a7efd9683"), looks := true }, kinds := [], alts := [], laidByText := true, laidKinds := [.data, .data, .data, .data, .sentinel, .sentinel, .pinned], laidTests := true, laidLooks := .later }
def InterpExpandsUptoCardSaid : Prop := Claim7.holds Tryz.pinned (.plain (OpenSpec.upto interpExpandsSpec)) interpExpandsUptoCard

/-- THE SECOND FORM's CARD OF 'pipelinelaw13.InterpChecks'. -/
def interpChecksUptoCard : Claim7 := { stood := { row := interpChecksUptoRow, standIns := [], harness := (true, "711fc9d7c522bf19c76ca25b66ef17a6ba40231a562b959f26f3294a7efd9683"), looks := true }, kinds := [], alts := [], laidByText := true, laidKinds := [.data, .data, .data, .data, .sentinel, .sentinel, .pinned], laidTests := true, laidLooks := .later }
def InterpChecksUptoCardSaid : Prop := Claim7.holds Tryz.pinned (.plain (OpenSpec.upto interpChecksSpec)) interpChecksUptoCard

/-- THE SECOND FORM's CARD OF 'pipelinelaw13.InterpBack'. -/
def interpBackUptoCard : Claim7 := { stood := { row := interpBackUptoRow, standIns := [], harness := (true, "711fc9d7c522bf19c76ca25b66ef17a6ba40231a562b959f26f3294a7efd9683"), looks := true }, kinds := [], alts := [], laidByText := true, laidKinds := [.data, .data, .data, .data, .sentinel, .sentinel, .pinned], laidTests := true, laidLooks := .later }
def InterpBackUptoCardSaid : Prop := Claim7.holds Tryz.pinned (.plain (OpenSpec.upto interpBackSpec)) interpBackUptoCard

/-- THE SECOND FORM's CARD OF 'pipelinelaw13.InterpSound'. -/
def interpSoundUptoCard : Claim7 := { stood := { row := interpSoundUptoRow, standIns := [], harness := (true, "711fc9d7c522bf19c76ca25b66ef17a6ba40231a562b959f26f3294a7efd9683"), looks := true }, kinds := [], alts := [], laidByText := true, laidKinds := [.data, .data, .data, .data, .sentinel, .sentinel, .pinned], laidTests := true, laidLooks := .later }
def InterpSoundUptoCardSaid : Prop := Claim7.holds Tryz.pinned (.plain (OpenSpec.upto interpSoundSpec)) interpSoundUptoCard

/-- THE SECOND FORM's CARD OF 'pipelinelaw13.InterpJoins'. -/
def interpJoinsUptoCard : Claim7 := { stood := { row := interpJoinsUptoRow, standIns := [], harness := (true, "711fc9d7c522bf19c76ca25b66ef17a6ba40231a562b959f26f3294a7efd9683"), looks := true }, kinds := [], alts := [], laidByText := true, laidKinds := [.data, .data, .data, .data, .sentinel, .sentinel, .pinned], laidTests := true, laidLooks := .later }
def InterpJoinsUptoCardSaid : Prop := Claim7.holds Tryz.pinned (.plain (OpenSpec.upto interpJoinsSpec)) interpJoinsUptoCard
end Rows
end Go.Proofs.YtpbjbkhfpjckoaaGreatDoor
