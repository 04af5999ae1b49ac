/- Proved here: what the card asks of the given code. -/
import Derived.Test.YtangbjfgdmopoaaGreatDoorRows
import Derived.SevenTiedAt
import Derived.KernelRfl
set_option linter.unusedVariables false
set_option linter.unusedSimpArgs false
set_option linter.unusedSectionVars false
namespace Go.Proofs.YtangbjfgdmopoaaGreatDoor
open Go
namespace checkSound
set_option maxHeartbeats 8000000 in
theorem goes :false=Rows.checkSoundUptoRow.goesBy Tryz.pinned.checked.prog:=by kernel_rfl
end checkSound
end Go.Proofs.YtangbjfgdmopoaaGreatDoor
