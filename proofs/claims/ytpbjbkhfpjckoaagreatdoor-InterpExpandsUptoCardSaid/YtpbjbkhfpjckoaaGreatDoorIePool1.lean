/- Proved here: nothing: further functional texts, as our program wrote them. -/
import Derived.Test.YtpbjbkhfpjckoaaGreatDoorIeFt1
set_option linter.unusedVariables false
set_option linter.unusedSimpArgs false
set_option linter.defProp false
set_option linter.unusedSectionVars false
namespace Go.Ft
open Go
def Vs(kD:Int):Option Bool:=
 some ((kD==5)||(kD==6))
def Pz(Xl:aM→Int→Option Int)(t1:aM)(bH:Int):Option Int:=
 if decide (16<bH)then
 some 13
 else
 if (decide (t1.kind<0))||(decide (7<t1.kind))then
  some 1
 else
  av (Vs t1.kind) fun x1=>
  if !x1 then
  if decide (0<(t1.elem.length:Int))then
   some 1
  else
   some 0
  else
  if (t1.elem.length:Int) !=1 then
   some 1
  else
   av (idx t1.elem 0) fun e1=>
   Xl e1 (bq (bH+1))
def EU:Nat→aM→Int→Option Int
 | 0,_,_=>none
 | k+1,Wq,eP=>Pz (EU k) Wq eP
def adB(Wq:aM)(eP:Int):Option Int:=EU BIG Wq eP
def Oh(t1:aM):Option Int:=
 adB t1 1
end Go.Ft
