/- Proved here: nothing: the functional texts of the functions that the statements reach, as our program wrote them. -/
import Derived.Test.YtggpjlegajicnaaGreatDoorCoFt1
import Derived.Test.YtggpjlegajicnaaGreatDoorCoFt2
import Derived.Test.YtggpjlegajicnaaGreatDoorCoFt3
import Derived.Test.YtggpjlegajicnaaGreatDoorCoFt7
set_option linter.unusedVariables false
set_option linter.unusedSimpArgs false
set_option linter.unusedSectionVars false
namespace Go.Ft
open Go
def JD (fD:aj) (bG:List aH):Option Int:=
 au (CX bG) fun x1=>
 fM (Bt fD x1) fun x2 e1=>
 if e1 != 0 then
  some e1
 else
  if ((x2.kind != 2) && (x2.kind != 0)) && (x2.kind != 7) then
   some 9
  else
   some 0

def uy (fD:aj) (bG:List aH):Option Bool:=
 au (yX fD (bG.length:Int)) fun x1=>
 if !x1 then
  lZ
 else
  au (je fD bG) fun x3=>
  au (JD fD bG) fun x4=>
  if x3 == x4 then
   lZ
  else
   some false
end Go.Ft
