/-
  DERIVED. GIVEN WITH THE SEED: THE CARDS: each row of YtdgljcpjcgldfaaGreatDoorRows.lean that lists a variable, with what it lists TIED to the program's text (the seventh form; the later family's looks); each row that meets fmt, with fmt's text TOLD by the authors' own Lean function (tested against real Go, not proved from fmt's source: count such statements apart). THE CARD IS WHAT COUNTS. Prove the row's statement (the work); the ties are given (YtdgljcpjcgldfaaGreatDoorTie.lean); close each card by the builder's one call (the guide's Derived/Test/ToyasCard.lean, 'card_holds'). Laid BY PROGRAM, IN A SANDBOX (cutbox-door.mjs). By AI agents, Wed Nov 11 2026. No macro, syntax, notation, axiom, sorry.
-/
import Derived.Test.YtdgljcpjcgldfaaGreatDoorRows
import GoSem.ClaimSeven
namespace Go.Proofs.YtdgljcpjcgldfaaGreatDoor
namespace Rows

/-- THE TIED CARD OF 'pipelinelaw54.AgentBegins'. -/
def agentBeginsCard : Claim7 := { stood := { row := agentBeginsRow, standIns := [], harness := (true, "89b5d86f41d6d34329e2087e696f6dbd1fde36a6127f7541a5980f0a26160f66"), looks := true }, kinds := [], alts := [], laidByText := true, laidKinds := [.data, .data, .data, .data, .sentinel, .sentinel, .pinned], laidTests := true, laidLooks := .later }
def AgentBeginsCardSaid : Prop := Claim7.holds Tryz.pinned (.plain (OpenSpec.ofChange agentBeginsSpec)) agentBeginsCard

/-- THE TIED CARD OF 'pipelinelaw54.AgentRequests'. -/
def agentRequestsCard : Claim7 := { stood := { row := agentRequestsRow, standIns := [], harness := (true, "89b5d86f41d6d34329e2087e696f6dbd1fde36a6127f7541a5980f0a26160f66"), looks := true }, kinds := [], alts := [], laidByText := true, laidKinds := [.data, .data, .data, .data, .sentinel, .sentinel, .pinned], laidTests := true, laidLooks := .later }
def AgentRequestsCardSaid : Prop := Claim7.holds Tryz.pinned (.plain (OpenSpec.ofChange agentRequestsSpec)) agentRequestsCard

/-- THE TIED CARD OF 'pipelinelaw54.AgentExpires'. -/
def agentExpiresCard : Claim7 := { stood := { row := agentExpiresRow, standIns := [], harness := (true, "89b5d86f41d6d34329e2087e696f6dbd1fde36a6127f7541a5980f0a26160f66"), looks := true }, kinds := [], alts := [], laidByText := true, laidKinds := [.data, .data, .data, .data, .sentinel, .sentinel, .pinned], laidTests := true, laidLooks := .later }
def AgentExpiresCardSaid : Prop := Claim7.holds Tryz.pinned (.plain (OpenSpec.ofChange agentExpiresSpec)) agentExpiresCard

/-- THE SECOND FORM's CARD OF 'pipelinelaw54.AgentBegins'. -/
def agentBeginsUptoCard : Claim7 := { stood := { row := agentBeginsUptoRow, standIns := [], harness := (true, "89b5d86f41d6d34329e2087e696f6dbd1fde36a6127f7541a5980f0a26160f66"), looks := true }, kinds := [], alts := [], laidByText := true, laidKinds := [.data, .data, .data, .data, .sentinel, .sentinel, .pinned], laidTests := true, laidLooks := .later }
def AgentBeginsUptoCardSaid : Prop := Claim7.holds Tryz.pinned (.plain (OpenSpec.upto agentBeginsSpec)) agentBeginsUptoCard

/-- THE SECOND FORM's CARD OF 'pipelinelaw54.AgentRequests'. -/
def agentRequestsUptoCard : Claim7 := { stood := { row := agentRequestsUptoRow, standIns := [], harness := (true, "89b5d86f41d6d34329e2087e696f6dbd1fde36a6127f7541a5980f0a26160f66"), looks := true }, kinds := [], alts := [], laidByText := true, laidKinds := [.data, .data, .data, .data, .sentinel, .sentinel, .pinned], laidTests := true, laidLooks := .later }
def AgentRequestsUptoCardSaid : Prop := Claim7.holds Tryz.pinned (.plain (OpenSpec.upto agentRequestsSpec)) agentRequestsUptoCard

/-- THE SECOND FORM's CARD OF 'pipelinelaw54.AgentExpires'. -/
def agentExpiresUptoCard : Claim7 := { stood := { row := agentExpiresUptoRow, standIns := [], harness := (true, "89b5d86f41d6d34329e2087e696f6dbd1fde36a6127f7541a5980f0a26160f66"), looks := true }, kinds := [], alts := [], laidByText := true, laidKinds := [.data, .data, .data, .data, .sentinel, .sentinel, .pinned], laidTests := true, laidLooks := .later }
def AgentExpiresUptoCardSaid : Prop := Claim7.holds Tryz.pinned (.plain (OpenSpec.upto agentExpiresSpec)) agentExpiresUptoCard
end Rows
end Go.Proofs.YtdgljcpjcgldfaaGreatDoor
