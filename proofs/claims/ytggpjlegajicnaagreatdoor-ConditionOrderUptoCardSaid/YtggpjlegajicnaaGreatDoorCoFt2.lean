/- Proved here: nothing: the functional texts of the functions that the statements reach, as our program wrote them. -/
import Derived.Test.YtggpjlegajicnaaGreatDoorCoFt1
set_option linter.unusedVariables false
set_option linter.unusedSimpArgs false
set_option linter.unusedSectionVars false
namespace Go.Ft
open Go
def pQ (mq:ah→ah→Option Bool) (a1:ah) (b1:ah):Nat→Int→Option Bool
 | 0,_=>none
 | KQ + 1,i2=>
  if decide (i2 < (a1.aO.length:Int)) then
   au (idx a1.aO i2) fun e3=>
   au (idx b1.aO i2) fun e4=>
   au (mq e3 e4) fun x1=>
   if !x1 then
    some false
   else
    pQ mq a1 b1 KQ (bZ (i2 + 1))
  else
   some true

def xC (mq:ah→ah→Option Bool) (a1:ah) (b1:ah):Nat→Int→Option Bool
 | 0,_=>none
 | bT + 1,i1=>
  if decide (i1 < (a1.keys.length:Int)) then
   au (idx a1.keys i1) fun e1=>
   au (idx b1.keys i1) fun e2=>
   if !(e1 == e2) then
    some false
   else
    xC mq a1 b1 bT (bZ (i1 + 1))
  else
   pQ mq a1 b1 BIG 0

def Gx (mq:ah→ah→Option Bool) (a1:ah) (b1:ah):Option Bool:=
 if (((((a1.kind != b1.kind) || (!(a1.dO == b1.dO))) || (a1.dI != b1.dI)) || (!(a1.bR == b1.bR))) || ((a1.aO.length:Int) != (b1.aO.length:Int))) || ((a1.keys.length:Int) != (b1.keys.length:Int)) then
  some false
 else
  xC mq a1 b1 BIG 0

def xB :Nat→ah→ah→Option Bool
 | 0,_,_=>none
 | k + 1,sF,sD=>Gx (xB k) sF sD

def Gy (sF:ah) (sD:ah):Option Bool:=xB BIG sF sD
end Go.Ft
