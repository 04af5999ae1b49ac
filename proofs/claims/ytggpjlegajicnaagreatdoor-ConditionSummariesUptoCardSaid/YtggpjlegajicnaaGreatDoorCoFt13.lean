/- Proved here: nothing: the functional texts of the functions that the statements reach, as our program wrote them. -/
import Derived.Test.YtggpjlegajicnaaGreatDoorCoFt1
set_option linter.unusedVariables false
set_option linter.unusedSimpArgs false
set_option linter.unusedSectionVars false
namespace Go.Ft
open Go
def jZ (bC:List Int):Nat→Bool→Bool→Int→Option Bool
 | 0,_,_,_=>none
 | bT + 1,KW,known1,i1=>
  if decide (i1 < (bC.length:Int)) then
   au (
     if KW then
      au (idx bC i1) fun e1=>
      some (e1 == 1)
     else
      some false) fun b1=>
   au (
     if known1 then
      au (idx bC i1) fun e2=>
      some (decide (1≤e2))
     else
      some false) fun b2=>
   au (
     if b2 then
      au (idx bC i1) fun e3=>
      some (decide (e3≤4))
     else
      some false) fun b3=>
   jZ bC bT b1 b3 (bZ (i1 + 1))
  else
   au nO fun x2=>
   fM (jO x2 bC []) fun a1 e4=>
   fM (mW ([115,117,99,99,101,115,115,32,38,38,32,40,102,97,105,108,117,114,101,32,124,124,32,99,97,110,99,101,108,108,101,100,32,124,124,32,115,107,105,112,112,101,100,41]:Str) bC) fun b4 f1=>
   fM (mW ([115,117,99,99,101,115,115,32,124,124,32,102,97,105,108,117,114,101,32,124,124,32,99,97,110,99,101,108,108,101,100,32,124,124,32,115,107,105,112,112,101,100]:Str) bC) fun c1 g1=>
   if (((((e4 == 0) && (f1 == 0)) && (g1 == 0)) && (a1 == KW)) && (!b4)) && ((!known1) || c1) then
    lZ
   else
    some false

def qI (bC:List Int):Option Bool:=
 if decide (300 < (bC.length:Int)) then
  lZ
 else
  jZ bC BIG true true 0
end Go.Ft
