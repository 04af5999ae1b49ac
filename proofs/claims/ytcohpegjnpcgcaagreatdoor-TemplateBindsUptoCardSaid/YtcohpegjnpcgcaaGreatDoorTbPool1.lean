/- Proved here: nothing: further functional texts, as our program wrote them. -/
import Derived.Test.YtcohpegjnpcgcaaGreatDoorTbFt1
set_option linter.unusedVariables false
set_option linter.unusedSimpArgs false
set_option linter.unusedSectionVars false
namespace Go.Ft
open Go
def Wv (c1:UInt8):Option Bool:=
 some ((((decide (97≤(c1.toNat:Int))) && (decide ((c1.toNat:Int)≤122))) || ((decide (65≤(c1.toNat:Int))) && (decide ((c1.toNat:Int)≤90)))) || ((c1.toNat:Int) == 95))
def YA (c1:UInt8):Option Bool:=
 some ((decide (48≤(c1.toNat:Int))) && (decide ((c1.toNat:Int)≤57)))
end Go.Ft
