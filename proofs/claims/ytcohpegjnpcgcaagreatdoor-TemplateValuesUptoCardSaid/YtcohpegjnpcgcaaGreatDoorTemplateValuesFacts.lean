/- Proved here: what the form of the row asks of the given code. -/
import Derived.Test.YtcohpegjnpcgcaaGreatDoorRows
import Derived.Test.YtcohpegjnpcgcaaGreatDoorCards
import Derived.Test.YtcohpegjnpcgcaaGreatDoorTie
import Derived.KernelRfl
import Derived.WalkKit
import Derived.ProofKit
import Derived.OpenShut
import Derived.JoinedCond
import Derived.Deep.DeepHandedRow
import Derived.Deep.DeepWitnessRowRef
import Derived.Lay
import Derived.SevenTiedAt
import Derived.MakeChecks
set_option linter.unusedVariables false
set_option linter.unusedSimpArgs false
set_option linter.unusedSectionVars false
namespace Go.Proofs.YtcohpegjnpcgcaaGreatDoor
open Go
set_option maxHeartbeats 8000000 in
theorem Ig :joinedFacts Tryz.pinned.checked.prog 5 Tryz.f5 (Rows.OpenSpec.upto Rows.templateValuesSpec).bare Rows.templateValuesUptoRow=true:=by
 unfold joinedFacts
 simp only [Bool.and_eq_true]
 repeat' apply And.intro
 all_goals (as_aux_lemma=>kernel_rfl)
end Go.Proofs.YtcohpegjnpcgcaaGreatDoor
