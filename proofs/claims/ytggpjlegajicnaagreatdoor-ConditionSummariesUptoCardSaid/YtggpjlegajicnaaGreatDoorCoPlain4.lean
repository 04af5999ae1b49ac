/- Proved here: plain facts on the functional texts. -/
import Derived.Test.YtggpjlegajicnaaGreatDoorCoPlain1
import Derived.Test.YtggpjlegajicnaaGreatDoorCoPre1
import Derived.Test.YtggpjlegajicnaaGreatDoorCoFt1
set_option linter.unusedVariables false
set_option linter.unusedSimpArgs false
set_option linter.unusedSectionVars false
set_option maxHeartbeats 2000000
namespace Go.Ft
open Go
attribute [local congr] dZ
theorem QN :∀ l:List Int,(List.map (fun z:Int=>1) l).sum=l.length
 | []=>rfl
 | x :: r=>by rw [List.map_cons,List.sum_cons,QN r,List.length_cons]; omega
end Go.Ft
