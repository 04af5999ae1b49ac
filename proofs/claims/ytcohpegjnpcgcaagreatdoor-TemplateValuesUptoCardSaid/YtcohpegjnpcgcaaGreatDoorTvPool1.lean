/- Proved here: nothing: further functional texts, as our program wrote them. -/
import Derived.Test.YtcohpegjnpcgcaaGreatDoorTvFt1
set_option linter.unusedVariables false
set_option linter.unusedSimpArgs false
set_option linter.unusedSectionVars false
namespace Go.Ft
open Go
def Gi (CY:aj→Option Int) (e1:aj):Nat→Int→Int→Option Int
 | 0,_,_=>none
 | bX + 1,n1,i1=>
 if decide (i1 < (e1.args.length:Int)) then
  av (idx e1.args i1) fun e2=>
  av (CY e2) fun x1=>
  Gi CY e1 bX (cZ (n1 + x1)) (cZ (i1 + 1))
 else
  some n1
def OP (CY:aj→Option Int) (e1:aj):Option Int:=
 Gi CY e1 BIG 1 0
def za :Nat→aj→Option Int
 | 0,_=>none
 | k + 1,j3=>OP (za k) j3
def NJ (j3:aj):Option Int:=za BIG j3
def QJ (c1:UInt8):Option Bool:=
 some ((((decide (97≤(c1.toNat:Int))) && (decide ((c1.toNat:Int)≤122))) || ((decide (65≤(c1.toNat:Int))) && (decide ((c1.toNat:Int)≤90)))) || ((c1.toNat:Int) == 95))
def Ul (c1:UInt8):Option Bool:=
 some ((decide (48≤(c1.toNat:Int))) && (decide ((c1.toNat:Int)≤57)))
def IV (s1:Str):Nat→Int→Option Bool
 | 0,_=>none
 | bX + 1,i1=>
 if decide (i1 < (s1.length:Int)) then
  av (idx s1 i1) fun x1=>
  av (QJ x1) fun x2=>
  av (
   if !x2 then
   if i1 == 0 then
    some true
   else
    av (idx s1 i1) fun x3=>
    av (Ul x3) fun x4=>
    some (!x4)
   else
   some false) fun b1=>
  if b1 then
  some false
  else
  IV s1 bX (cZ (i1 + 1))
 else
  some ((decide (1≤(s1.length:Int))) && (decide ((s1.length:Int)≤64)))
def QK (s1:Str):Option Bool:=
 IV s1 BIG 0
def FE (s1:Str):Option Bool:=
 av (QK s1) fun x1=>
 some (((x1 && (!(s1 == ([116,114,117,101]:Str)))) && (!(s1 == ([102,97,108,115,101]:Str)))) && (!(s1 == ([110,117,108,108]:Str))))
def FH (kK:Int):Option Bool:=
 some ((kK == 5) || (kK == 6))
def OQ (Vr:aJ→Int→Option Int) (t1:aJ) (bS:Int):Option Int:=
 if decide (16 < bS) then
 some 13
 else
 if (decide (t1.kind < 0)) || (decide (7 < t1.kind)) then
  some 1
 else
  av (FH t1.kind) fun x1=>
  if !x1 then
  if decide (0 < (t1.elem.length:Int)) then
   some 1
  else
   some 0
  else
  if (t1.elem.length:Int) != 1 then
   some 1
  else
   av (idx t1.elem 0) fun e1=>
   Vr e1 (cZ (bS + 1))
def EC :Nat→aJ→Int→Option Int
 | 0,_,_=>none
 | k + 1,XH,fT=>OQ (EC k) XH fT
def ZO (XH:aJ) (fT:Int):Option Int:=EC BIG XH fT
def NM (t1:aJ):Option Int:=
 ZO t1 1
def NI (e1:aj):Option Bool:=
 if e1.kind == 1 then
 some ((e1.args.length:Int) == 0)
 else
 if e1.kind == 2 then
  some ((e1.args.length:Int) == 0)
 else
  if e1.kind == 3 then
  some ((e1.args.length:Int) == 1)
  else
  if e1.kind == 6 then
   some ((e1.args.length:Int) == 1)
  else
   if e1.kind == 4 then
   some ((e1.args.length:Int) == 2)
   else
   if e1.kind == 7 then
    some ((e1.args.length:Int) == 2)
   else
    if e1.kind == 8 then
    some ((e1.args.length:Int) == 3)
    else
    some (((e1.kind == 5) || (e1.kind == 9)) || (e1.kind == 10))
def MJ (op1:Str):Option Int:=
 if op1 == ([124,124]:Str) then
 some 2
 else
 if op1 == ([38,38]:Str) then
  some 3
 else
  if op1 == ([61,61]:Str) then
  some 4
  else
  if op1 == ([33,61]:Str) then
   some 4
  else
   if op1 == ([60]:Str) then
   some 4
   else
   if op1 == ([60,61]:Str) then
    some 4
   else
    if op1 == ([62]:Str) then
    some 4
    else
    if op1 == ([62,61]:Str) then
     some 4
    else
     if op1 == ([43]:Str) then
     some 5
     else
     if op1 == ([45]:Str) then
      some 5
     else
      if op1 == ([42]:Str) then
      some 6
      else
      if op1 == ([47]:Str) then
       some 6
      else
       if op1 == ([37]:Str) then
       some 6
       else
       some 0
def NH (e1:aj):Option Bool:=
 if e1.kind == 2 then
 FE e1.name
 else
 if e1.kind == 3 then
  FE e1.name
 else
  if e1.kind == 5 then
  FE e1.name
  else
  if e1.kind == 6 then
   some ((e1.name == ([33]:Str)) || (e1.name == ([45]:Str)))
  else
   if e1.kind == 7 then
   av (MJ e1.name) fun x4=>
   some (decide (0 < x4))
   else
   some (e1.name == ([]:Str))
def IY (vZ:ah→ah→Option Bool) (a1:ah) (b1:ah):Nat→Int→Option Bool
 | 0,_=>none
 | Jj + 1,i2=>
 if decide (i2 < (a1.aW.length:Int)) then
  av (idx a1.aW i2) fun e3=>
  av (idx b1.aW i2) fun e4=>
  av (vZ e3 e4) fun x1=>
  if !x1 then
  some false
  else
  IY vZ a1 b1 Jj (cZ (i2 + 1))
 else
  some true
def IZ (vZ:ah→ah→Option Bool) (a1:ah) (b1:ah):Nat→Int→Option Bool
 | 0,_=>none
 | bX + 1,i1=>
 if decide (i1 < (a1.keys.length:Int)) then
  av (idx a1.keys i1) fun e1=>
  av (idx b1.keys i1) fun e2=>
  if !(e1 == e2) then
  some false
  else
  IZ vZ a1 b1 bX (cZ (i1 + 1))
 else
  IY vZ a1 b1 BIG 0
def QM (vZ:ah→ah→Option Bool) (a1:ah) (b1:ah):Option Bool:=
 if (((((a1.kind != b1.kind) || (!(a1.eB == b1.eB))) || (a1.gI != b1.gI)) || (!(a1.fM == b1.fM))) || ((a1.aW.length:Int) != (b1.aW.length:Int))) || ((a1.keys.length:Int) != (b1.keys.length:Int)) then
 some false
 else
 IZ vZ a1 b1 BIG 0
def LA :Nat→ah→ah→Option Bool
 | 0,_,_=>none
 | k + 1,uy,oz=>QM (LA k) uy oz
def QN (uy:ah) (oz:ah):Option Bool:=LA BIG uy oz
def Bh (e1:aj):Nat→Int→Option Bool
 | 0,_=>none
 | bX + 1,i1=>
 if decide (i1 < (e1.keys.length:Int)) then
  av (idx e1.keys i1) fun e2=>
  av (
   if decide ((e2.length:Int) < 1) then
   some true
   else
   av (idx e1.keys i1) fun e3=>
   some (decide (64 < (e3.length:Int)))) fun b4=>
  if b4 then
  some false
  else
  Bh e1 bX (cZ (i1 + 1))
 else
  some ((e1.keys.length:Int) == (e1.args.length:Int))
def Lx (e1:aj):Option Bool:=
 av (NI e1) fun x1=>
 av (
  if !x1 then
  some true
  else
  av (NH e1) fun x2=>
  some (!x2)) fun b1=>
 av (
  if b1 then
  some true
  else
  if e1.kind != 1 then
   av (QN e1.value (ah.mk 0 false 0 ([]:Str) [] [])) fun x3=>
   some (!x3)
  else
   some false) fun b2=>
 if b2 then
 some false
 else
 if e1.kind != 10 then
  some ((e1.keys.length:Int) == 0)
 else
  Bh e1 BIG 0
def CK (MV:List Str) (i1:Int) (Ht:Int→Option Bool):Nat→Int→Option Bool
 | 0,_=>none
 | Jj + 1,Al=>
 if decide (Al < i1) then
  av (idx MV i1) fun e1=>
  av (idx MV Al) fun e2=>
  if e1 == e2 then
  some true
  else
  CK MV i1 Ht Jj (cZ (Al + 1))
 else
  Ht (cZ (i1 + 1))
def zC (MV:List Str):Nat→Int→Option Bool
 | 0,_=>none
 | bX + 1,i1=>
 if decide (i1 < (MV.length:Int)) then
  CK MV i1 (zC MV bX) BIG 0
 else
  some false
def NG (MV:List Str):Option Bool:=
 zC MV BIG 0
def Gh (CX:aj→Int→Option Int) (e1:aj) (bS:Int):Nat→Int→Option Int
 | 0,_=>none
 | bX + 1,i1=>
 if decide (i1 < (e1.args.length:Int)) then
  av (idx e1.args i1) fun e2=>
  av (CX e2 (cZ (bS + 1))) fun f2=>
  if f2 != 0 then
  some f2
  else
  Gh CX e1 bS bX (cZ (i1 + 1))
 else
  some 0
def OO (CX:aj→Int→Option Int) (e1:aj) (bS:Int):Option Int:=
 if decide (16 < bS) then
 some 13
 else
 av (Lx e1) fun x1=>
 if !x1 then
  some 1
 else
  av (Dj e1.value) fun f1=>
  if (e1.kind == 1) && (f1 != 0) then
  some f1
  else
  if decide (1024 < (e1.args.length:Int)) then
   some 3
  else
   av (NG e1.keys) fun x2=>
   if x2 then
   some 7
   else
   Gh CX e1 bS BIG 0
def yZ :Nat→aj→Int→Option Int
 | 0,_,_=>none
 | k + 1,j3,fT=>OO (yZ k) j3 fT
def Uj (j3:aj) (fT:Int):Option Int:=yZ BIG j3 fT
def Uk (e1:aj):Option Int:=
 av (NJ e1) fun x1=>
 if decide (4096 < x1) then
 some 15
 else
 Uj e1 1
def sj (kK:Int):Option aJ:=
 some (aJ.mk kK [])
def zD (kK:Int) (t1:aJ):Option aJ:=
 some (aJ.mk kK [t1])
def DJ (Xa:aJ→aJ→Option aJ) (a1:aJ) (b1:aJ):Option aJ:=
 if a1.kind == 7 then
 some b1
 else
 if b1.kind == 7 then
  some a1
 else
  if a1.kind != b1.kind then
  sj 0
  else
  av (FH a1.kind) fun x2=>
  if x2 then
   av (idx a1.elem 0) fun e1=>
   av (idx b1.elem 0) fun e2=>
   av (Xa e1 e2) fun x3=>
   zD a1.kind x3
  else
   some a1
def yL :Nat→aJ→aJ→Option aJ
 | 0,_,_=>none
 | k + 1,uy,oz=>DJ (yL k) uy oz
def QL (uy:aJ) (oz:aJ):Option aJ:=yL BIG uy oz
def NK (Kj:ah→Option aJ) (v1:ah):Nat→Int→aJ→Option aJ
 | 0,_,_=>none
 | bX + 1,i1,t1=>
 if decide (i1 < (v1.aW.length:Int)) then
  av (idx v1.aW i1) fun e1=>
  av (Kj e1) fun x6=>
  av (QL t1 x6) fun x7=>
  NK Kj v1 bX (cZ (i1 + 1)) x7
 else
  if v1.kind == 5 then
  zD 6 t1
  else
  zD 5 t1
def WB (Kj:ah→Option aJ) (v1:ah):Option aJ:=
 if v1.kind == 0 then
 sj 1
 else
 if v1.kind == 1 then
  sj 2
 else
  if v1.kind == 2 then
  sj 3
  else
  if v1.kind == 3 then
   sj 4
  else
   av (sj 7) fun x5=>
   NK Kj v1 BIG 0 x5
def IW :Nat→ah→Option aJ
 | 0,_=>none
 | k + 1,tO=>WB (IW k) tO
def qg (Np:Bool):Option Int:=
 if Np then
 some (-1)
 else
 some 1
def CO (a1:List Str) (b1:List Str):Nat→Int→Option Int
 | 0,_=>none
 | bX + 1,i1=>
 if (decide (i1 < (a1.length:Int))) && (decide (i1 < (b1.length:Int))) then
  av (idx a1 i1) fun e1=>
  av (idx b1 i1) fun e2=>
  av (qU e1 e2) fun c1=>
  if c1 != 0 then
  qg (decide (c1 < 0))
  else
  CO a1 b1 bX (cZ (i1 + 1))
 else
  if (a1.length:Int) == (b1.length:Int) then
  some 0
  else
  qg (decide ((a1.length:Int) < (b1.length:Int)))
def NN (a1:List Str) (b1:List Str):Option Int:=
 CO a1 b1 BIG 0
def KU (wh:ah→ah→Option Int) (GA:List ah→List ah→Option Int) (a1:ah) (b1:ah):Option Int:=
 if a1.kind != b1.kind then
 qg (decide (a1.kind < b1.kind))
 else
 if a1.kind == 1 then
  if !(a1.eB == b1.eB) then
  qg b1.eB
  else
  some 0
 else
  if a1.kind == 2 then
  if a1.gI != b1.gI then
   qg (decide (a1.gI < b1.gI))
  else
   some 0
  else
  if a1.kind == 3 then
   if !(a1.fM == b1.fM) then
   qg (Go.Op.bytesLess a1.fM b1.fM)
   else
   some 0
  else
   if a1.kind == 4 then
   GA a1.aW b1.aW
   else
   if a1.kind == 5 then
    av (NN a1.keys b1.keys) fun c1=>
    if c1 != 0 then
    some c1
    else
    GA a1.aW b1.aW
   else
    some 0
def CP (wh:ah→ah→Option Int) (a1:List ah) (b1:List ah):Nat→Int→Option Int
 | 0,_=>none
 | bX + 1,i1=>
 if (decide (i1 < (a1.length:Int))) && (decide (i1 < (b1.length:Int))) then
  av (idx a1 i1) fun e1=>
  av (idx b1 i1) fun e2=>
  av (wh e1 e2) fun c1=>
  if c1 != 0 then
  some c1
  else
  CP wh a1 b1 bX (cZ (i1 + 1))
 else
  if (a1.length:Int) == (b1.length:Int) then
  some 0
  else
  qg (decide ((a1.length:Int) < (b1.length:Int)))
def OT (wh:ah→ah→Option Int) (GA:List ah→List ah→Option Int) (a1:List ah) (b1:List ah):Option Int:=
 CP wh a1 b1 BIG 0
mutual
def pR :Nat→ah→ah→Option Int
 | 0,_,_=>none
 | k + 1,uy,oz=>KU (pR k) (IX k) uy oz
def IX :Nat→List ah→List ah→Option Int
 | 0,_,_=>none
 | k + 1,uy,oz=>OT (pR k) (IX k) uy oz
end
def I4 (uy:ah) (oz:ah):Option Int:=pR BIG uy oz
def Um (a1:ah) (b1:ah):Option Bool:=
 av (I4 a1 b1) fun x1=>
 some (x1 == 0)
end Go.Ft
