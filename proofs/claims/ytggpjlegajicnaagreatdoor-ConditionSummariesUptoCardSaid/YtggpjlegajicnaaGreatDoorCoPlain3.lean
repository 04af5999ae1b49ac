/- Proved here: plain facts on the functional texts. -/
import Derived.Test.YtggpjlegajicnaaGreatDoorCoPlain1
import Derived.Test.YtggpjlegajicnaaGreatDoorCoPre1
import Derived.Test.YtggpjlegajicnaaGreatDoorCoFt1
set_option linter.unusedVariables false
set_option linter.unusedSimpArgs false
set_option linter.unusedSectionVars false
set_option maxHeartbeats 2000000
namespace Go.Ft
open Go
attribute [local congr] dZ
theorem yZ (p:Bool) (q:Bool):(if p=true then some q else some false)=some (p && q):=by cases p <;> rfl
end Go.Ft
