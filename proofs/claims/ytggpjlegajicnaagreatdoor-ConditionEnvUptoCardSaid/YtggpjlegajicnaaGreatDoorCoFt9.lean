/- Proved here: nothing: the functional texts of the functions that the statements reach, as our program wrote them. -/
import Derived.Test.YtggpjlegajicnaaGreatDoorCoFt1
import Derived.Test.YtggpjlegajicnaaGreatDoorCoFt2
import Derived.Test.YtggpjlegajicnaaGreatDoorCoFt4
import Derived.Test.YtggpjlegajicnaaGreatDoorCoFt5
set_option linter.unusedVariables false
set_option linter.unusedSimpArgs false
set_option linter.unusedSectionVars false
namespace Go.Ft
open Go
def sH (a1:List aA) (b1:List aA):Nat→Int→Option Bool
 | 0,_=>none
 | bT + 1,i1=>
  if decide (i1 < (a1.length:Int)) then
   au (idx a1 i1) fun e1=>
   au (idx b1 i1) fun e2=>
   au (
     if !(e1.name == e2.name) then
      some true
     else
      au (idx a1 i1) fun e3=>
      au (idx b1 i1) fun e4=>
      au (Gy e3.value e4.value) fun x1=>
      some (!x1)) fun b2=>
   if b2 then
    some false
   else
    sH a1 b1 bT (bZ (i1 + 1))
  else
   some true

def BG (a1:List aA) (b1:List aA):Option Bool:=
 if (a1.length:Int) != (b1.length:Int) then
  some false
 else
  sH a1 b1 BIG 0

def yY (bC:List Int) (bG:List aA):Option Bool:=
 if decide (2000 < (bZ ((bC.length:Int) + (bG.length:Int)))) then
  lZ
 else
  au (uf bC bG) fun x2=>
  au (Kr bC bG) fun x3=>
  au (BG x2 x3) fun x4=>
  if x4 then
   lZ
  else
   some false
end Go.Ft
