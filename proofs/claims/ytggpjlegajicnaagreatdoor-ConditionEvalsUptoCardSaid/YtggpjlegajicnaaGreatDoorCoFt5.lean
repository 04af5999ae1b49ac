/- Proved here: nothing: the functional texts of the functions that the statements reach, as our program wrote them. -/
import Derived.Test.YtggpjlegajicnaaGreatDoorCoFt1
import Derived.Test.YtggpjlegajicnaaGreatDoorCoFt2
import Derived.Test.YtggpjlegajicnaaGreatDoorCoFt4
set_option linter.unusedVariables false
set_option linter.unusedSimpArgs false
set_option linter.unusedSectionVars false
namespace Go.Ft
open Go
def Aw (bC:List Int) (mR:Int):Nat→Int→Option Bool
 | 0,_=>none
 | bT + 1,i1=>
  if decide (i1 < (bC.length:Int)) then
   au (idx bC i1) fun e1=>
   if e1 == mR then
    some true
   else
    Aw bC mR bT (bZ (i1 + 1))
  else
   some false

def JB (bC:List Int) (mR:Int):Option Bool:=
 Aw bC mR BIG 0

def CW (bC:List Int) (mR:Int):Nat→Int→Option Bool
 | 0,_=>none
 | bT + 1,i1=>
  if decide (i1 < (bC.length:Int)) then
   au (idx bC i1) fun e1=>
   if e1 != mR then
    some false
   else
    CW bC mR bT (bZ (i1 + 1))
  else
   some true

def UK (bC:List Int) (mR:Int):Option Bool:=
 CW bC mR BIG 0

def Kr (bC:List Int) (bG:List aA):Option (List aA):=
 au (jf true) fun x1=>
 au (JB bC 4) fun x2=>
 au (jf x2) fun x3=>
 au (app [(aA.mk ([97,108,119,97,121,115]:Str) x1)] [(aA.mk ([99,97,110,99,101,108,108,101,100]:Str) x3)]) fun l1=>
 au (JB bC 2) fun x4=>
 au (jf x4) fun x5=>
 au (app l1 [(aA.mk ([102,97,105,108,117,114,101]:Str) x5)]) fun l2=>
 au (JB bC 3) fun x6=>
 au (jf x6) fun x7=>
 au (app l2 [(aA.mk ([115,107,105,112,112,101,100]:Str) x7)]) fun l3=>
 au (UK bC 1) fun x8=>
 au (jf x8) fun x9=>
 au (app l3 [(aA.mk ([115,117,99,99,101,115,115]:Str) x9)]) fun l4=>
 app l4 bG
end Go.Ft
