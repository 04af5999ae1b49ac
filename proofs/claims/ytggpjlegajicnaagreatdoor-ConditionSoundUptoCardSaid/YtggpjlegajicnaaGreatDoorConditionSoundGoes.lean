/- Proved here: what the card asks of the given code. -/
import Derived.Test.YtggpjlegajicnaaGreatDoorRows
import Derived.SevenTiedAt
import Derived.KernelRfl
set_option linter.unusedVariables false
set_option linter.unusedSimpArgs false
set_option linter.unusedSectionVars false
namespace Go.Proofs.YtggpjlegajicnaaGreatDoor
open Go
namespace conditionSound
set_option maxHeartbeats 8000000 in
theorem goes :false=Rows.conditionSoundUptoRow.goesBy Tryz.pinned.checked.prog:=by kernel_rfl
end conditionSound
end Go.Proofs.YtggpjlegajicnaaGreatDoor
