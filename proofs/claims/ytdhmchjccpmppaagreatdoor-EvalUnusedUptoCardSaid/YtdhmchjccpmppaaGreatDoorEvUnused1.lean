/- Proved here: plain facts on the functional texts. -/
import Derived.Test.YtdhmchjccpmppaaGreatDoorEvPlain2
set_option linter.unusedVariables false
set_option linter.unusedSimpArgs false
set_option linter.unusedSectionVars false
set_option maxHeartbeats 2000000
namespace Go.Ft
open Go
attribute [local congr] jE
theorem afS {e x:aj} (h:x∈e.args) {s:Str} (hs:s∉SN e):s∉SN x:=by
 intro hx
 apply hs
 rw [QG,List.mem_append,VY]
 exact .inr ⟨x,h,hx⟩
theorem afR {e:aj} (h:(e.kind == 2)=true) {s:Str} (hs:s∉SN e):(s == e.name)=false:=by
 rw [QG,h] at hs
 simp only [if_true,List.singleton_append,List.mem_cons,not_or] at hs
 simpa using hs.1
end Go.Ft
