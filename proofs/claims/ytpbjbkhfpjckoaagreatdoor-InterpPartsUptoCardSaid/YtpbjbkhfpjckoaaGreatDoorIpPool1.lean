/- Proved here: nothing: further functional texts, as our program wrote them. -/
import Derived.Test.YtpbjbkhfpjckoaaGreatDoorIpFt1
set_option linter.unusedVariables false
set_option linter.unusedSimpArgs false
set_option linter.unusedSectionVars false
namespace Go.Ft
open Go
def Pb (jU:Int):Option Bool:=
 some ((jU == 5) || (jU == 6))
def JZ (Qy:aG→Int→Option Int) (t1:aG) (cB:Int):Option Int:=
 if decide (16 < cB) then
 some 13
 else
 if (decide (t1.kind < 0)) || (decide (7 < t1.kind)) then
  some 1
 else
  ay (Pb t1.kind) fun x1=>
  if !x1 then
  if decide (0 < (t1.elem.length:Int)) then
   some 1
  else
   some 0
  else
  if (t1.elem.length:Int) != 1 then
   some 1
  else
   ay (idx t1.elem 0) fun e1=>
   Qy e1 (bV (cB + 1))
def Ao :Nat→aG→Int→Option Int
 | 0,_,_=>none
 | k + 1,TY,fM=>JZ (Ao k) TY fM
def Wy (TY:aG) (fM:Int):Option Int:=Ao BIG TY fM
def I6 (t1:aG):Option Int:=
 Wy t1 1
def xw (b1:Bool):Option Int:=
 if b1 then
 some 1
 else
 some 0
def eU (I4:List ak) (IZ:List ak) (QO:ak→ak→Option Int):Nat→Int→Option Int
 | 0,_=>none
 | dA + 1,i1=>
 if decide (i1 < (I4.length:Int)) then
  ay (idx I4 i1) fun e1=>
  if decide ((IZ.length:Int)≤i1) then
  some 1
  else
  ay (idx IZ i1) fun e2=>
  ay (QO e1 e2) fun c1=>
  if c1 != 0 then
   some c1
  else
   eU I4 IZ QO dA (bV (i1 + 1))
 else
  if decide ((I4.length:Int) < (IZ.length:Int)) then
  some (-1)
  else
  some 0
def dY (I4:List ak) (IZ:List ak) (QO:ak→ak→Option Int):Option Int:=
 eU I4 IZ QO BIG 0
def gD (I4:List Str) (IZ:List Str) (QO:Str→Str→Option Int):Nat→Int→Option Int
 | 0,_=>none
 | dA + 1,i1=>
 if decide (i1 < (I4.length:Int)) then
  ay (idx I4 i1) fun aeV=>
  if decide ((IZ.length:Int)≤i1) then
  some 1
  else
  ay (idx IZ i1) fun aeU=>
  ay (QO aeV aeU) fun c1=>
  if c1 != 0 then
   some c1
  else
   gD I4 IZ QO dA (bV (i1 + 1))
 else
  if decide ((I4.length:Int) < (IZ.length:Int)) then
  some (-1)
  else
  some 0
def gU (I4:List Str) (IZ:List Str) (QO:Str→Str→Option Int):Option Int:=
 gD I4 IZ QO BIG 0
def Dm (Cg:ak→ak→Option Int) (a1:ak) (b1:ak):Option Int:=
 ay (cmp_Compare_int a1.kind b1.kind) fun c1=>
 if c1 != 0 then
 some c1
 else
 if a1.kind == 1 then
  ay (xw a1.fU) fun x1=>
  ay (xw b1.fU) fun x2=>
  cmp_Compare_int x1 x2
 else
  if a1.kind == 2 then
  cmp_Compare_int a1.kF b1.kF
  else
  if a1.kind == 3 then
   lN a1.kC b1.kC
  else
   if a1.kind == 4 then
   dY a1.bT b1.bT Cg
   else
   if a1.kind == 5 then
    ay (gU a1.keys b1.keys j6) fun c2=>
    if c2 != 0 then
    some c2
    else
    dY a1.bT b1.bT Cg
   else
    some 0
def kZ :Nat→ak→ak→Option Int
 | 0,_,_=>none
 | k + 1,tJ,tH=>Dm (kZ k) tJ tH
def Bb (tJ:ak) (tH:ak):Option Int:=kZ BIG tJ tH
def JN (a1:ak) (b1:ak):Option Bool:=
 ay (Bb a1 b1) fun x1=>
 some (x1 == 0)
end Go.Ft
