/- Proved here: nothing: the functional texts of the functions that the statements reach, as our program wrote them. -/
import Derived.Test.YtggpjlegajicnaaGreatDoorCoFt1
import Derived.Test.YtggpjlegajicnaaGreatDoorCoFt2
import Derived.Test.YtggpjlegajicnaaGreatDoorCoFt3
import Derived.Test.YtggpjlegajicnaaGreatDoorCoFt4
import Derived.Test.YtggpjlegajicnaaGreatDoorCoFt6
set_option linter.unusedVariables false
set_option linter.unusedSimpArgs false
set_option linter.unusedSectionVars false
namespace Go.Ft
open Go
def mG (fD:aj) (bC:List Int) (bG:List aA):Nat→List Int→Int→Option Bool
 | 0,_,_=>none
 | bT + 1,l1,i1=>
  if decide (0≤i1) then
   au (idx bC i1) fun e1=>
   au (app l1 ([e1]:List Int)) fun l2=>
   mG fD bC bG bT l2 (bZ (i1 - 1))
  else
   au (app l1 bC) fun l3=>
   fM (jO fD bC bG) fun a1 e2=>
   fM (jO fD l3 bG) fun b1 f1=>
   if (a1 == b1) && (e2 == f1) then
    lZ
   else
    some false

def vG (fD:aj) (bC:List Int) (bG:List aA):Option Bool:=
 au (yX fD (bZ ((bZ (2 * (bC.length:Int))) + (bG.length:Int)))) fun x1=>
 if !x1 then
  lZ
 else
  mG fD bC bG BIG [] (bZ ((bC.length:Int) - 1))
end Go.Ft
