/- Proved here: what the card asks of the given code. -/
import Derived.Test.YtdhmchjccpmppaaGreatDoorRows
import Derived.SevenTiedAt
import Derived.KernelRfl
set_option linter.unusedVariables false
set_option linter.unusedSimpArgs false
set_option linter.unusedSectionVars false
namespace Go.Proofs.YtdhmchjccpmppaaGreatDoor
open Go
namespace evalSplits
set_option maxHeartbeats 8000000 in
theorem goes :false=Rows.evalSplitsUptoRow.goesBy Tryz.pinned.checked.prog:=by kernel_rfl
end evalSplits
end Go.Proofs.YtdhmchjccpmppaaGreatDoor
