/- Proved here: nothing: further functional texts, as our program wrote them. -/
import Derived.Test.YtpbjbkhfpjckoaaGreatDoorIsFt1
set_option linter.unusedVariables false
set_option linter.unusedSimpArgs false
set_option linter.unusedSectionVars false
namespace Go.Ft
open Go
def Kt (gT:Int):Option Bool:=
 some ((gT == 5) || (gT == 6))
def E_ (Lm:ay→Int→Option Int) (t1:ay) (bf:Int):Option Int:=
 if decide (16 < bf) then
 some 13
 else
 if (decide (t1.kind < 0)) || (decide (7 < t1.kind)) then
  some 1
 else
  ak (Kt t1.kind) fun x1=>
  if !x1 then
  if decide (0 < (t1.elem.length:Int)) then
   some 1
  else
   some 0
  else
  if (t1.elem.length:Int) != 1 then
   some 1
  else
   ak (idx t1.elem 0) fun e1=>
   Lm e1 (bQ (bf + 1))
def wH :Nat→ay→Int→Option Int
 | 0,_,_=>none
 | k + 1,NV,dA=>E_ (wH k) NV dA
def Qs (NV:ay) (dA:Int):Option Int:=wH BIG NV dA
def El (t1:ay):Option Int:=
 Qs t1 1
end Go.Ft
