/- Proved here: nothing: the functional texts of the functions that the statements reach, as our program wrote them. -/
import Derived.Test.YtdomnihfjnbnjaaGreatDoorSdWords
set_option linter.unusedVariables false
set_option linter.unusedSimpArgs false
set_option linter.defProp false
set_option linter.unusedSectionVars false
namespace Go.Ft
open Go
structure ah where
 kind:Int
 dZ:Bool
 eB:Int
 bV:Str
 aO:List ah
 keys:List Str
structure aF where
 name:Str
 value:ah
structure aA where
 kind:Int
 text:Str
 at_:Int
 deriving DecidableEq
structure av where
 ts:List aA
 at_:Int
 deriving DecidableEq
structure aB where
 at_:Int
 code:Int
 deriving DecidableEq
structure ak where
 kind:Int
 name:Str
 value:ah
 args:List ak
 keys:List Str
structure aS where
 text:Str
 VG:Bool
 expr:ak
structure aG where
 code:Int
 deriving DecidableEq
structure fF where
 half:List (BitVec 64)
 neg:Bool
 deriving DecidableEq
structure ay where
 kind:Int
 elem:List ay
structure aT where
 name:Str
 oM:ay
structure aj9 where
 x:Int
 y:Int
 signed:Bool
 code:UInt8
 deriving DecidableEq
structure Fg where
 x:Int
 y:Int
 signed:Bool
 code:UInt8
 deriving DecidableEq
structure aj8 where
 msg:Str
 addr:BitVec 64
 deriving DecidableEq
structure wQ where
 msg:Str
 addr:BitVec 64
 deriving DecidableEq
structure aj7 where
 kind:Int
 dZ:Bool
 eB:Int
 bV:Str
 aO:List ah
 keys:List Str
structure aj6 where
 name:Str
 value:ah
structure aj5 where
 kind:Int
 elem:List ay
structure aj4 where
 name:Str
 oM:ay
structure aj3 where
 kind:Int
 name:Str
 value:ah
 args:List ak
 keys:List Str
structure aj2 where
 text:Str
 VG:Bool
 expr:ak
structure aj1 where
 kind:Int
 text:Str
 at_:Int
 deriving DecidableEq
structure aj0 where
 code:Int
 deriving DecidableEq
structure ajZ where
 ts:List aA
 at_:Int
 deriving DecidableEq
structure ajY where
 at_:Int
 code:Int
 deriving DecidableEq
structure ajX where
 lo:UInt8
 hi:UInt8
 deriving DecidableEq
structure Jh where
 lo:UInt8
 hi:UInt8
 deriving DecidableEq
structure asY where
 half:List (BitVec 64)
 neg:Bool
 deriving DecidableEq
structure asX where
 func:Str
 num:Str
 err:Option Nat
structure agZ where
 func:Str
 num:Str
 err:Option Nat
structure ajW where
 s:Str
 deriving DecidableEq
structure Gc where
 s:Str
 deriving DecidableEq
mutual
def ah.bulk:ah→Nat
 | ⟨a0,a1,a2,a3,a4,a5⟩=>1+1+1+(a3.length+1)+(ah.kZ a4+1)+((List.map (fun z:Str=>(z.length+1)) a5).sum+1)+1
def ah.kZ:List ah→Nat
 | []=>0
 | x::xs=>ah.bulk x+ah.kZ xs
end
theorem ah.pX:∀l:List ah,ah.kZ l=(l.map ah.bulk).sum
 | []=>rfl
 | x::l=>by simp only[ah.kZ,asy,as9,ah.pX l]
theorem ah.nN(x:ah):ah.bulk x=1+1+1+(x.bV.length+1)+(ah.kZ x.aO+1)+((List.map (fun z:Str=>(z.length+1)) x.keys).sum+1)+1:=by cases x;rfl
def aF.bulk(x:aF):Nat:=(x.name.length+1)+(ah.bulk x.value)+1
def aA.bulk(x:aA):Nat:=1+(x.text.length+1)+1+1
def av.bulk(x:av):Nat:=((List.map (fun z:aA=>(aA.bulk z)) x.ts).sum+1)+1+1
def aB.bulk(x:aB):Nat:=1+1+1
mutual
def ak.bulk:ak→Nat
 | ⟨a0,a1,a2,a3,a4⟩=>1+(a1.length+1)+(ah.bulk a2)+(ak.kZ a3+1)+((List.map (fun z:Str=>(z.length+1)) a4).sum+1)+1
def ak.kZ:List ak→Nat
 | []=>0
 | x::xs=>ak.bulk x+ak.kZ xs
end
theorem ak.pX:∀l:List ak,ak.kZ l=(l.map ak.bulk).sum
 | []=>rfl
 | x::l=>by simp only[ak.kZ,asy,as9,ak.pX l]
theorem ak.nN(x:ak):ak.bulk x=1+(x.name.length+1)+(ah.bulk x.value)+(ak.kZ x.args+1)+((List.map (fun z:Str=>(z.length+1)) x.keys).sum+1)+1:=by cases x;rfl
def aS.bulk(x:aS):Nat:=(x.text.length+1)+1+(ak.bulk x.expr)+1
def aG.bulk(x:aG):Nat:=1+1
mutual
def ay.bulk:ay→Nat
 | ⟨a0,a1⟩=>1+(ay.kZ a1+1)+1
def ay.kZ:List ay→Nat
 | []=>0
 | x::xs=>ay.bulk x+ay.kZ xs
end
theorem ay.pX:∀l:List ay,ay.kZ l=(l.map ay.bulk).sum
 | []=>rfl
 | x::l=>by simp only[ay.kZ,asy,as9,ay.pX l]
theorem ay.nN(x:ay):ay.bulk x=1+(ay.kZ x.elem+1)+1:=by cases x;rfl
def aT.bulk(x:aT):Nat:=(x.name.length+1)+(ay.bulk x.oM)+1
def aj9.bulk(x:aj9):Nat:=1+1+1+1+1
def Fg.bulk(x:Fg):Nat:=1+1+1+1+1
def aj8.bulk(x:aj8):Nat:=(x.msg.length+1)+1+1
def wQ.bulk(x:wQ):Nat:=(x.msg.length+1)+1+1
def aj7.bulk(x:aj7):Nat:=1+1+1+(x.bV.length+1)+(ah.kZ x.aO+1)+((List.map (fun z:Str=>(z.length+1)) x.keys).sum+1)+1
def aj6.bulk(x:aj6):Nat:=(x.name.length+1)+(ah.bulk x.value)+1
def aj5.bulk(x:aj5):Nat:=1+(ay.kZ x.elem+1)+1
def aj4.bulk(x:aj4):Nat:=(x.name.length+1)+(ay.bulk x.oM)+1
def aj3.bulk(x:aj3):Nat:=1+(x.name.length+1)+(ah.bulk x.value)+(ak.kZ x.args+1)+((List.map (fun z:Str=>(z.length+1)) x.keys).sum+1)+1
def aj2.bulk(x:aj2):Nat:=(x.text.length+1)+1+(ak.bulk x.expr)+1
def aj1.bulk(x:aj1):Nat:=1+(x.text.length+1)+1+1
def aj0.bulk(x:aj0):Nat:=1+1
def ajZ.bulk(x:ajZ):Nat:=((List.map (fun z:aA=>(aA.bulk z)) x.ts).sum+1)+1+1
def ajY.bulk(x:ajY):Nat:=1+1+1
def ajX.bulk(x:ajX):Nat:=1+1+1
def Jh.bulk(x:Jh):Nat:=1+1+1
def ajW.bulk(x:ajW):Nat:=(x.s.length+1)+1
def Gc.bulk(x:Gc):Nat:=(x.s.length+1)+1
def AL(c1:UInt8):Option Bool:=
 some ((((decide (97≤(c1.toNat:Int)))&&(decide ((c1.toNat:Int)≤122)))||((decide (65≤(c1.toNat:Int)))&&(decide ((c1.toNat:Int)≤90))))||((c1.toNat:Int)==95))
def qx(c1:UInt8):Option Bool:=
 some ((decide (48≤(c1.toNat:Int)))&&(decide ((c1.toNat:Int)≤57)))
def Cb(s1:Str):Nat→Int→Option Bool
 | 0,_=>none
 | dW+1,i1=>
  if decide (i1<(s1.length:Int))then
   au (idx s1 i1) fun x1=>
   au (AL x1) fun x2=>
   au (
     if !x2 then
      if i1==0 then
       some true
      else
       au (idx s1 i1) fun x3=>
       au (qx x3) fun x4=>
       some (!x4)
     else
      some false) fun b1=>
   if b1 then
    some false
   else
    Cb s1 dW (bF (i1+1))
  else
   some ((decide (1≤(s1.length:Int)))&&(decide ((s1.length:Int)≤64)))
def Gy(s1:Str):Option Bool:=
 Cb s1 BIG 0
def qw(s1:Str):Option Bool:=
 au (Gy s1) fun x1=>
 some (((x1&&(!(s1==([116,114,117,101]:Str))))&&(!(s1==([102,97,108,115,101]:Str))))&&(!(s1==([110,117,108,108]:Str))))
def GA(v1:ah):Option Bool:=
 if ((v1.dZ&&(v1.kind !=1))||((v1.eB !=0)&&(v1.kind !=2)))||((!(v1.bV==([]:Str)))&&(v1.kind !=3))then
  some false
 else
  if ((decide (0<(v1.aO.length:Int)))&&(v1.kind !=4))&&(v1.kind !=5)then
   some false
  else
   some (((v1.keys.length:Int)==0)||(v1.kind==5))
def NV(s1:Str):Option Bool:=
 some ((decide (1≤(s1.length:Int)))&&(decide ((s1.length:Int)≤64)))
def wz(ad_ Ou:Bool):Option Int:=
 if ad_ then
  some (-1)
 else
  if Ou then
   some 1
  else
   some 0
def Ec(c1:UInt8):Option Bool:=
 some ((decide (48≤(c1.toNat:Int)))&&(decide ((c1.toNat:Int)≤57)))
def EK(s1:Str):Nat→Int→Option Int
 | 0,_=>none
 | dW+1,at2=>
  au (
    if decide (at2<(s1.length:Int))then
     au (idx s1 at2) fun x1=>
     Ec x1
    else
     some false) fun b1=>
  if b1 then
   EK s1 dW (bF (at2+1))
  else
   some at2
def NZ(s1:Str)(dP:Int):Option Int:=
 EK s1 BIG dP
def wu(s1:Str):Nat→Int→Option Str
 | 0,_=>none
 | dW+1,i1=>
  au (
    if decide (i1<(s1.length:Int))then
     au (idx s1 i1) fun x1=>
     some ((x1.toNat:Int)==48)
    else
     some false) fun b1=>
  if b1 then
   wu s1 dW (bF (i1+1))
  else
   sl s1 i1 (s1.length:Int)
def Eb(s1:Str):Option Str:=
 wu s1 BIG 0
def JY(a1 b1:Str):Option Int:=
 au (Eb a1) fun x1=>
 au (Eb b1) fun y1=>
 if (x1.length:Int) !=(y1.length:Int)then
  wz (decide ((x1.length:Int)<(y1.length:Int))) (decide ((y1.length:Int)<(x1.length:Int)))
 else
  if !(x1==y1)then
   wz (Go.Op.bytesLess x1 y1) (!(Go.Op.bytesLess x1 y1||x1==y1))
  else
   wz (decide ((a1.length:Int)<(b1.length:Int))) (decide ((b1.length:Int)<(a1.length:Int)))
def ny(a1 b1:Str):Nat→Int→Int→Option Int
 | 0,_,_=>none
 | dW+1,i1,Ak=>
  if (decide (i1<(a1.length:Int)))&&(decide (Ak<(b1.length:Int)))then
   au (idx a1 i1) fun x1=>
   au (idx b1 Ak) fun x2=>
   au (idx a1 i1) fun x3=>
   au (idx b1 Ak) fun x4=>
   au (wz (decide ((x1.toNat:Int)<(x2.toNat:Int))) (decide ((x4.toNat:Int)<(x3.toNat:Int)))) fun c1=>
   au (idx a1 i1) fun x5=>
   au (Ec x5) fun x6=>
   au (
     if x6 then
      au (idx b1 Ak) fun x7=>
      Ec x7
     else
      some false) fun b2=>
   if b2 then
    au (NZ a1 i1) fun m1=>
    au (NZ b1 Ak) fun n1=>
    au (sl a1 i1 m1) fun x9=>
    au (sl b1 Ak n1) fun Fh=>
    au (JY x9 Fh) fun c2=>
    if c2 !=0 then
     some c2
    else
     ny a1 b1 dW m1 n1
   else
    if c1 !=0 then
     some c1
    else
     ny a1 b1 dW (bF (i1+1)) (bF (Ak+1))
  else
   wz (decide (Ak<(b1.length:Int))) (decide (i1<(a1.length:Int)))
def qE(a1 b1:Str):Option Int:=
 ny a1 b1 BIG 0 0
def o8(v1:ah):Nat→Int→Option Bool
 | 0,_=>none
 | dW+1,i1=>
  if decide (i1<(v1.keys.length:Int))then
   au (idx v1.keys i1) fun e1=>
   au (NV e1) fun x1=>
   au (
     if !x1 then
      some true
     else
      if decide (0<i1)then
       au (idx v1.keys (bF (i1-1))) fun e2=>
       au (idx v1.keys i1) fun e3=>
       au (qE e2 e3) fun x2=>
       some (decide (0≤x2))
      else
       some false) fun b1=>
   if b1 then
    some false
   else
    o8 v1 dW (bF (i1+1))
  else
   some ((v1.keys.length:Int)==(v1.aO.length:Int))
def w_(v1:ah):Option Bool:=
 o8 v1 BIG 0
def zB(oH:ah→Int→Option Int)(v1:ah)(bM:Int):Nat→Int→Option Int
 | 0,_=>none
 | dW+1,i1=>
  if decide (i1<(v1.aO.length:Int))then
   au (idx v1.aO i1) fun e1=>
   au (oH e1 (bF (bM+1))) fun e2=>
   if e2 !=0 then
    some e2
   else
    zB oH v1 bM dW (bF (i1+1))
  else
   some 0
def FJ(oH:ah→Int→Option Int)(v1:ah)(bM:Int):Option Int:=
 if decide (16<bM)then
  some 13
 else
  au (
    if (decide (v1.kind<0))||(decide (5<v1.kind))then
     some true
    else
     au (GA v1) fun x1=>
     some (!x1)) fun b1=>
  if b1 then
   some 1
  else
   if (decide (v1.eB<(-9007199254740992)))||(decide (9007199254740992<v1.eB))then
    some 2
   else
    if ((decide (4096<(v1.bV.length:Int)))||(decide (1024<(v1.aO.length:Int))))||(decide (1024<(v1.keys.length:Int)))then
     some 3
    else
     au (
       if v1.kind==5 then
        au (w_ v1) fun x2=>
        some (!x2)
       else
        some false) fun b2=>
     if b2 then
      some 1
     else
      if ((decide (4≤v1.kind))&&((v1.aO.length:Int)==0))&&(bM==16)then
       some 13
      else
       zB oH v1 bM BIG 0
def vo:Nat→ah→Int→Option Int
 | 0,_,_=>none
 | k+1,nS,gI=>FJ (vo k) nS gI
def PI(nS:ah)(gI:Int):Option Int:=vo BIG nS gI
def yT(v1:ah):Option Int:=
 PI v1 1
def AJ(dJ:List aF)(i1:Int)(xC:Int→Option Int):Nat→Int→Option Int
 | 0,_=>none
 | kk2+1,Ak=>
  if decide (Ak<i1)then
   au (idx dJ Ak) fun e4=>
   au (idx dJ i1) fun e5=>
   if e4.name==e5.name then
    some 7
   else
    AJ dJ i1 xC kk2 (bF (Ak+1))
  else
   xC (bF (i1+1))
def yu(dJ:List aF):Nat→Int→Option Int
 | 0,_=>none
 | dW+1,i1=>
  if decide (i1<(dJ.length:Int))then
   au (idx dJ i1) fun e1=>
   au (qw e1.name) fun x1=>
   if !x1 then
    some 1
   else
    au (idx dJ i1) fun e2=>
    au (yT e2.value) fun e3=>
    if e3 !=0 then
     some e3
    else
     AJ dJ i1 (yu dJ dW) BIG 0
  else
   some 0
def NS(dJ:List aF):Option Int:=
 if decide (1024<(dJ.length:Int))then
  some 3
 else
  yu dJ BIG 0
def Ol:Option Str:=
 some ([36,123]:List UInt8)
def nJ(s1 zC:Str):Option Bool:=
 if decide ((zC.length:Int)≤(s1.length:Int))then
  au (sl s1 0 (zC.length:Int)) fun x1=>
  some (x1==zC)
 else
  some false
def strings_HasPrefix(s1 zC:Str):Option Bool:=
 nJ s1 zC
def mU(s1:Str):Nat→Int→Option Int
 | 0,_=>none
 | dW+1,i1=>
  if decide (i1<(s1.length:Int))then
   au (idx s1 i1) fun x1=>
   if (x1.toNat:Int)==92 then
    mU s1 dW (bF ((bF (i1+1))+1))
   else
    if (x1.toNat:Int)==34 then
     some (bF (i1+1))
    else
     mU s1 dW (bF (i1+1))
  else
   some (s1.length:Int)
def BF(s1:Str)(dP:Int):Option Int:=
 mU s1 BIG (bF (dP+1))
def iy(s1:Str):Nat→Int→Int→Option Int
 | 0,_,_=>none
 | dW+1,at2,iV=>
  if decide (at2<(s1.length:Int))then
   au (idx s1 at2) fun x1=>
   if (x1.toNat:Int)==34 then
    au (BF s1 at2) fun at3=>
    iy s1 dW at3 iV
   else
    if (x1.toNat:Int)==123 then
     iy s1 dW (bF (at2+1)) (bF (iV+1))
    else
     if (x1.toNat:Int)==125 then
      if iV==0 then
       some at2
      else
       iy s1 dW (bF (at2+1)) (bF (iV-1))
     else
      iy s1 dW (bF (at2+1)) iV
  else
   some (-1)
def zS(s1:Str)(dP:Int):Option Int:=
 iy s1 BIG dP 0
def zR(qD:Int):Option Bool:=
 some ((qD==32)||(qD==9))
def rY(s1:Str)(Ab:UInt8→Option Bool):Nat→Int→Option Int
 | 0,_=>none
 | dW+1,at2=>
  au (
    if decide (at2<(s1.length:Int))then
     au (idx s1 at2) fun x1=>
     Ab x1
    else
     some false) fun b1=>
  if b1 then
   rY s1 Ab dW (bF (at2+1))
  else
   some at2
def vB(s1:Str)(dP:Int)(Ab:UInt8→Option Bool):Option Int:=
 rY s1 Ab BIG dP
def r9(c1:UInt8):Option Bool:=
 some ((c1.toNat:Int) !=10)
def tJ(c1:UInt8):Option Bool:=
 some ((((decide (97≤(c1.toNat:Int)))&&(decide ((c1.toNat:Int)≤122)))||((decide (65≤(c1.toNat:Int)))&&(decide ((c1.toNat:Int)≤90))))||((c1.toNat:Int)==95))
def sO(c1:UInt8):Option Bool:=
 some ((decide (48≤(c1.toNat:Int)))&&(decide ((c1.toNat:Int)≤57)))
def wD(c1:UInt8):Option Bool:=
 au (tJ c1) fun x1=>
 if x1 then
  some true
 else
  sO c1
def EP(bU:Str)(dP:Int):Option (aA × Int × Int):=
 au (vB bU dP wD) fun uP=>
 if decide (64<(bF (uP-dP)))then
  some ((aA.mk 0 ([]:Str) 0),0,3)
 else
  au (sl bU dP uP) fun x1=>
  some ((aA.mk 1 x1 dP),uP,0)
def rZ(z_:Str):Nat→Int→Int→Option Bool
 | 0,_,_=>none
 | dW+1,n1,i1=>
  if (decide (i1<(z_.length:Int)))&&(decide (n1≤9007199254740992))then
   au (idx z_ i1) fun x1=>
   rZ z_ dW (bF ((bF (10*n1))+((x1-48).toNat:Int))) (bF (i1+1))
  else
   some (decide (9007199254740992<n1))
def FN(z_:Str):Option Bool:=
 rZ z_ BIG 0 0
def zQ(bU:Str)(dP:Int):Option (aA × Int × Int):=
 au (vB bU dP sO) fun uP=>
 au (sl bU dP uP) fun text1=>
 au (
   if decide (1<(text1.length:Int))then
    au (idx text1 0) fun x1=>
    some ((x1.toNat:Int)==48)
   else
    some false) fun b1=>
 au (
   if b1 then
    some true
   else
    if decide (uP<(bU.length:Int))then
     au (idx bU uP) fun x2=>
     tJ x2
    else
     some false) fun b2=>
 if b2 then
  some ((aA.mk 0 ([]:Str) 0),0,5)
 else
  au (FN text1) fun x4=>
  if x4 then
   some ((aA.mk 0 ([]:Str) 0),0,2)
  else
   some ((aA.mk 2 text1 dP),uP,0)
def wE(c1:UInt8):Option Int:=
 au (sO c1) fun x1=>
 if x1 then
  some ((c1-48).toNat:Int)
 else
  if (decide (97≤(c1.toNat:Int)))&&(decide ((c1.toNat:Int)≤102))then
   some (bF (((c1-97).toNat:Int)+10))
  else
   if (decide (65≤(c1.toNat:Int)))&&(decide ((c1.toNat:Int)≤70))then
    some (bF (((c1-65).toNat:Int)+10))
   else
    some (-1)
def xw(bU:Str)(dP:Int):Option (UInt8 × Int):=
 if decide ((bU.length:Int)≤(bF (dP+1)))then
  some (0,0)
 else
  au (idx bU (bF (dP+1))) fun c1=>
  if (c1.toNat:Int)==34 then
   some (c1,2)
  else
   if (c1.toNat:Int)==92 then
    some (c1,2)
   else
    if (c1.toNat:Int)==110 then
     some (10,2)
    else
     if (c1.toNat:Int)==116 then
      some (9,2)
     else
      if (c1.toNat:Int)==120 then
       au (
         if decide ((bF (dP+3))<(bU.length:Int))then
          au (idx bU (bF (dP+2))) fun x1=>
          au (wE x1) fun x2=>
          some (decide (0≤x2))
         else
          some false) fun b1=>
       au (
         if b1 then
          au (idx bU (bF (dP+3))) fun x3=>
          au (wE x3) fun x4=>
          some (decide (0≤x4))
         else
          some false) fun b2=>
       if b2 then
        au (idx bU (bF (dP+2))) fun x5=>
        au (wE x5) fun x6=>
        au (idx bU (bF (dP+3))) fun x7=>
        au (wE x7) fun x8=>
        some ((Ft.byteOf (bF ((bF (16*x6))+x8))),4)
       else
        some (0,0)
      else
       some (0,0)
def Ck(bU:Str)(dP:Int):Option Bool:=
 au (sl bU (bF (dP+1)) (bU.length:Int)) fun NJ=>
 if (NJ==([]:Str))||(NJ==([120]:Str))then
  some true
 else
  au (
    if (NJ.length:Int)==2 then
     au (idx NJ 0) fun x1=>
     some ((x1.toNat:Int)==120)
    else
     some false) fun b2=>
  if b2 then
   au (idx NJ 1) fun x2=>
   au (wE x2) fun x3=>
   some (decide (0≤x3))
  else
   some false
def rz(bU:Str)(dP:Int):Nat→Int→Str→Option (aA × Int × Int)
 | 0,_,_=>none
 | dW+1,i1,b1=>
  if decide (i1<(bU.length:Int))then
   au (idx bU i1) fun c1=>
   if (c1.toNat:Int)==34 then
    if decide (4096<(b1.length:Int))then
     some ((aA.mk 0 ([]:Str) 0),0,3)
    else
     some ((aA.mk 3 b1 dP),(bF (i1+1)),0)
   else
    if decide ((c1.toNat:Int)<32)then
     some ((aA.mk 0 ([]:Str) 0),0,5)
    else
     if (c1.toNat:Int)==92 then
      fD (xw bU i1) fun x1 n1=>
      au (
        if n1==0 then
         Ck bU i1
        else
         some false) fun b2=>
      if b2 then
       some ((aA.mk 0 ([]:Str) 0),0,4)
      else
       if n1==0 then
        some ((aA.mk 0 ([]:Str) 0),0,5)
       else
        au (app b1 [x1]) fun b3=>
        rz bU dP dW (bF (i1+n1)) b3
     else
      au (app b1 [c1]) fun b4=>
      rz bU dP dW (bF (i1+1)) b4
  else
   some ((aA.mk 0 ([]:Str) 0),0,4)
def EO(bU:Str)(dP:Int):Option (aA × Int × Int):=
 rz bU dP BIG (bF (dP+1)) []
def jI(bU:Str)(dP:Int):Nat→Int→Option (aA × Int × Int)
 | 0,_=>none
 | dW+1,x1=>
  if decide (x1<(([2,1]:List Int).length:Int))then
   au (idx ([2,1]:List Int) x1) fun n1=>
   if decide ((bU.length:Int)<(bF (dP+n1)))then
    jI bU dP dW (bF (x1+1))
   else
    au (sl bU dP (bF (dP+n1))) fun s1=>
    if s1==([124,124]:Str)then
     some ((aA.mk 4 s1 dP),(bF (dP+n1)),0)
    else
     if s1==([38,38]:Str)then
      some ((aA.mk 4 s1 dP),(bF (dP+n1)),0)
     else
      if s1==([61,61]:Str)then
       some ((aA.mk 4 s1 dP),(bF (dP+n1)),0)
      else
       if s1==([33,61]:Str)then
        some ((aA.mk 4 s1 dP),(bF (dP+n1)),0)
       else
        if s1==([60,61]:Str)then
         some ((aA.mk 4 s1 dP),(bF (dP+n1)),0)
        else
         if s1==([62,61]:Str)then
          some ((aA.mk 4 s1 dP),(bF (dP+n1)),0)
         else
          if s1==([60]:Str)then
           some ((aA.mk 4 s1 dP),(bF (dP+n1)),0)
          else
           if s1==([62]:Str)then
            some ((aA.mk 4 s1 dP),(bF (dP+n1)),0)
           else
            if s1==([43]:Str)then
             some ((aA.mk 4 s1 dP),(bF (dP+n1)),0)
            else
             if s1==([45]:Str)then
              some ((aA.mk 4 s1 dP),(bF (dP+n1)),0)
             else
              if s1==([42]:Str)then
               some ((aA.mk 4 s1 dP),(bF (dP+n1)),0)
              else
               if s1==([47]:Str)then
                some ((aA.mk 4 s1 dP),(bF (dP+n1)),0)
               else
                if s1==([37]:Str)then
                 some ((aA.mk 4 s1 dP),(bF (dP+n1)),0)
                else
                 if s1==([33]:Str)then
                  some ((aA.mk 4 s1 dP),(bF (dP+n1)),0)
                 else
                  if s1==([63]:Str)then
                   some ((aA.mk 4 s1 dP),(bF (dP+n1)),0)
                  else
                   if s1==([58]:Str)then
                    some ((aA.mk 4 s1 dP),(bF (dP+n1)),0)
                   else
                    if s1==([46]:Str)then
                     some ((aA.mk 4 s1 dP),(bF (dP+n1)),0)
                    else
                     if s1==([44]:Str)then
                      some ((aA.mk 4 s1 dP),(bF (dP+n1)),0)
                     else
                      if s1==([61]:Str)then
                       some ((aA.mk 4 s1 dP),(bF (dP+n1)),0)
                      else
                       if s1==([40]:Str)then
                        some ((aA.mk 4 s1 dP),(bF (dP+n1)),0)
                       else
                        if s1==([41]:Str)then
                         some ((aA.mk 4 s1 dP),(bF (dP+n1)),0)
                        else
                         if s1==([91]:Str)then
                          some ((aA.mk 4 s1 dP),(bF (dP+n1)),0)
                         else
                          if s1==([93]:Str)then
                           some ((aA.mk 4 s1 dP),(bF (dP+n1)),0)
                          else
                           if s1==([123]:Str)then
                            some ((aA.mk 4 s1 dP),(bF (dP+n1)),0)
                           else
                            if s1==([125]:Str)then
                             some ((aA.mk 4 s1 dP),(bF (dP+n1)),0)
                            else
                             jI bU dP dW (bF (x1+1))
  else
   some ((aA.mk 0 ([]:Str) 0),0,5)
def vC(bU:Str)(dP:Int):Option (aA × Int × Int):=
 jI bU dP BIG 0
def Cj(bU:Str)(dP:Int):Option (aA × Int × Int):=
 au (idx bU dP) fun c1=>
 au (tJ c1) fun x1=>
 if x1 then
  EP bU dP
 else
  au (sO c1) fun x5=>
  if x5 then
   zQ bU dP
  else
   if (c1.toNat:Int)==34 then
    EO bU dP
   else
    vC bU dP
def vD(op1:Str)(iV:Int):Option Int:=
 if op1==([40]:Str)then
  some (bF (iV+1))
 else
  if op1==([91]:Str)then
   some (bF (iV+1))
  else
   if op1==([41]:Str)then
    some (if 0<(bF (iV-1))then (bF (iV-1))else 0)
   else
    if op1==([93]:Str)then
     some (if 0<(bF (iV-1))then (bF (iV-1))else 0)
    else
     some iV
def ji(bU:Str):Nat→List aA→Int→Int→Nat→Option (List aA × Int × Int)
 | 0,_,_,_,_=>none
 | dW+1,bP,kV,iV,pos1=>
  if decide (pos1<bU.length)then
   au (
     if decide ((pos1:Int)<kV)then
      some true
     else
      zR ((dec bU pos1).1:Int)) fun b1=>
   if b1 then
    ji bU dW bP kV iV (pos1+(dec bU pos1).2)
   else
    if ((dec bU pos1).1:Int)==35 then
     au (vB bU (pos1:Int) r9) fun GK=>
     ji bU dW bP GK iV (pos1+(dec bU pos1).2)
    else
     if ((dec bU pos1).1:Int)==10 then
      au (
        if iV==0 then
         if (bP.length:Int)==0 then
          some true
         else
          au (idx bP (bF ((bP.length:Int)-1))) fun e1=>
          some (e1.kind !=5)
        else
         some false) fun b2=>
      if b2 then
       au (app bP [(aA.mk 5 ([]:Str) (pos1:Int))]) fun xk=>
       ji bU dW xk kV iV (pos1+(dec bU pos1).2)
      else
       ji bU dW bP kV iV (pos1+(dec bU pos1).2)
     else
      mq (Cj bU (pos1:Int)) fun x2 uP e2=>
      if e2 !=0 then
       some ([],(pos1:Int),e2)
      else
       if x2.kind==4 then
        au (vD x2.text iV) fun aam=>
        au (app bP [x2]) fun afw=>
        ji bU dW afw uP aam (pos1+(dec bU pos1).2)
       else
        au (app bP [x2]) fun ah9=>
        ji bU dW ah9 uP iV (pos1+(dec bU pos1).2)
  else
   some (bP,0,0)
def oD(bU:Str):Option (List aA × Int × Int):=
 if decide (65536<(bU.length:Int))then
  some ([],0,3)
 else
  ji bU BIG [] 0 0 0
def xg(c1:UInt8):Option Bool:=
 some ((((decide (97≤(c1.toNat:Int)))&&(decide ((c1.toNat:Int)≤122)))||((decide (65≤(c1.toNat:Int)))&&(decide ((c1.toNat:Int)≤90))))||((c1.toNat:Int)==95))
def oC(c1:UInt8):Option Bool:=
 some ((decide (48≤(c1.toNat:Int)))&&(decide ((c1.toNat:Int)≤57)))
def rV(s1:Str):Nat→Int→Option Bool
 | 0,_=>none
 | dW+1,i1=>
  if decide (i1<(s1.length:Int))then
   au (idx s1 i1) fun x3=>
   au (xg x3) fun x4=>
   au (
     if !x4 then
      au (idx s1 i1) fun x5=>
      au (oC x5) fun x6=>
      some (!x6)
     else
      some false) fun b2=>
   if b2 then
    some false
   else
    rV s1 dW (bF (i1+1))
  else
   some true
def yU(s1:Str):Option Bool:=
 au (
   if (decide ((s1.length:Int)<1))||(decide (64<(s1.length:Int)))then
    some true
   else
    au (idx s1 0) fun x1=>
    au (xg x1) fun x2=>
    some (!x2)) fun b1=>
 if b1 then
  some false
 else
  rV s1 BIG 0
def strconv_Itoa(n1:Int):Option Str:=
 if -9223372036854775808≤n1∧n1≤9223372036854775807 then some (vF n1)else none
def strconv_Atoi(s1:Str):Option (Int × Option Nat):=
 if s1.length≤281474976710656 then some ((vR s1).2,if (vR s1).1=0 then none else some 289)else none
def lK(s1:Str):Nat→Int→Option Bool
 | 0,_=>none
 | dW+1,i1=>
  if decide (i1<(s1.length:Int))then
   au (idx s1 i1) fun x2=>
   au (oC x2) fun x3=>
   if !x3 then
    some false
   else
    lK s1 dW (bF (i1+1))
  else
   fD (strconv_Atoi s1) fun n1 Uu=>
   some ((Uu.isNone)&&(decide (n1≤9007199254740992)))
def vv(s1:Str):Option Bool:=
 au (
   if s1==([]:Str)then
    some true
   else
    if decide (1<(s1.length:Int))then
     au (idx s1 0) fun x1=>
     some ((x1.toNat:Int)==48)
    else
     some false) fun b1=>
 if b1 then
  some false
 else
  lK s1 BIG 0
def jP(t1:aA):Option Bool:=
 if t1.kind==1 then
  yU t1.text
 else
  if t1.kind==2 then
   vv t1.text
  else
   if t1.kind==3 then
    some (decide ((t1.text.length:Int)≤4096))
   else
    if t1.kind==4 then
     some true
    else
     some false
def jQ(qD:av):Option (aA × av):=
 au (
   if decide (qD.at_<(qD.ts.length:Int))then
    au (idx qD.ts qD.at_) fun e1=>
    jP e1
   else
    some false) fun b1=>
 if b1 then
  au (idx qD.ts qD.at_) fun e2=>
  some (e2,qD)
 else
  some ((aA.mk 0 ([]:Str) 0),qD)
def wB(qD:av)(op1:Str):Option (Bool × av):=
 fD (jQ qD) fun x1 y1=>
 some (((x1.kind==4)&&(x1.text==op1)),y1)
def dx(qD:av)(op1:Str):Option (Bool × av):=
 fD (wB qD op1) fun x1 y1=>
 if !x1 then
  some (false,y1)
 else
  some (true,(av.mk y1.ts (bF (y1.at_+1))))
def gU(qD:av)(e1:Int):Option (fG aB Unit × av):=
 some (.bad (aB.mk qD.at_ e1),qD)
def jR(qD:av):Option (fG aB aA × av):=
 if decide ((qD.ts.length:Int)≤qD.at_)then
  fZ (gU qD 4) (fun e1 y2=>some (.bad e1,y2)) fun _ y1=>
  fD (jQ y1) fun x1 y3=>
  if x1.kind==0 then
   fZ (gU y3 5) (fun e2 y5=>some (.bad e2,y5)) fun _ y4=>
   some (.ok x1,y4)
  else
   some (.ok x1,y3)
 else
  fD (jQ qD) fun x2 y6=>
  if x2.kind==0 then
   fZ (gU y6 5) (fun e3 y8=>some (.bad e3,y8)) fun _ y7=>
   some (.ok x2,y7)
  else
   some (.ok x2,y6)
def rW(v1:ah):Option ak:=
 some (ak.mk 1 ([]:Str) v1 [] [])
def qF(s1:Str):Option Bool:=
 some (((s1==([116,114,117,101]:Str))||(s1==([102,97,108,115,101]:Str)))||(s1==([110,117,108,108]:Str)))
def fH(qD:av)(op1:Str):Option (fG aB Unit × av):=
 fZ (jR qD) (fun e1 y2=>some (.bad e1,y2)) fun x1 y1=>
 fD (dx y1 op1) fun x2 y3=>
 if !x2 then
  fZ (gU y3 5) (fun e2 y5=>some (.bad e2,y5)) fun _ y4=>
  some (.ok (),y4)
 else
  some (.ok (),y3)
def gT(op1:Str):Option Int:=
 if op1==([124,124]:Str)then
  some 2
 else
  if op1==([38,38]:Str)then
   some 3
  else
   if op1==([61,61]:Str)then
    some 4
   else
    if op1==([33,61]:Str)then
     some 4
    else
     if op1==([60]:Str)then
      some 4
     else
      if op1==([60,61]:Str)then
       some 4
      else
       if op1==([62]:Str)then
        some 4
       else
        if op1==([62,61]:Str)then
         some 4
        else
         if op1==([43]:Str)then
          some 5
         else
          if op1==([45]:Str)then
           some 5
          else
           if op1==([42]:Str)then
            some 6
           else
            if op1==([47]:Str)then
             some 6
            else
             if op1==([37]:Str)then
              some 6
             else
              some 0
def mK(aM:av→Option (fG aB ak × av))(aW:av→Int→Option (fG aB ak × av))(bD bH cB:av→Option (fG aB ak × av))(cu:av→Str→Option (fG aB ak × av))(bW:av→Str→Option (fG aB (List ak) × av))(bQ:av→Option (fG aB ak × av))(qD:av):Option (fG aB ak × av):=
 fZ (aW qD 2) (fun e1 y2=>some (.bad e1,y2)) fun x1 y1=>
 fD (dx y1 ([63]:Str)) fun x2 y3=>
 if !x2 then
  some (.ok x1,y3)
 else
  fZ (aM y3) (fun e2 y5=>some (.bad e2,y5)) fun x3 y4=>
  fZ (fH y4 ([58]:Str)) (fun e3 y7=>some (.bad e3,y7)) fun _ y6=>
  fZ (aM y6) (fun e4 y9=>some (.bad e4,y9)) fun x4 y8=>
  some (.ok (ak.mk 8 ([]:Str) (ah.mk 0 false 0 ([]:Str) [] []) [x1,x3,x4] []),y8)
def iL(aW:av→Int→Option (fG aB ak × av))(n1:Int):Nat→ak→av→Option (fG aB ak × av)
 | 0,_,_=>none
 | dW+1,e3,y5=>
  fD (jQ y5) fun x3 y6=>
  au (
    if x3.kind !=4 then
     some true
    else
     au (gT x3.text) fun x4=>
     some (x4 !=n1)) fun b1=>
  if b1 then
   some (.ok e3,y6)
  else
   fZ (aW (av.mk y6.ts (bF (y6.at_+1))) (bF (n1+1))) (fun e4 y8=>some (.bad e4,y8)) fun x5 y7=>
   if n1==4 then
    some (.ok (ak.mk 7 x3.text (ah.mk 0 false 0 ([]:Str) [] []) [e3,x5] []),y7)
   else
    iL aW n1 dW (ak.mk 7 x3.text (ah.mk 0 false 0 ([]:Str) [] []) [e3,x5] []) y7
def ko(aM:av→Option (fG aB ak × av))(aW:av→Int→Option (fG aB ak × av))(bD bH cB:av→Option (fG aB ak × av))(cu:av→Str→Option (fG aB ak × av))(bW:av→Str→Option (fG aB (List ak) × av))(bQ:av→Option (fG aB ak × av))(qD:av)(n1:Int):Option (fG aB ak × av):=
 if n1==7 then
  fZ (bD qD) (fun e1 y2=>some (.bad e1,y2)) fun x1 y1=>
  some (.ok x1,y1)
 else
  fZ (aW qD (bF (n1+1))) (fun e2 y4=>some (.bad e2,y4)) fun x2 y3=>
  iL aW n1 BIG x2 y3
def iZ(bD bH:av→Option (fG aB ak × av)):Nat→Int→av→Option (fG aB ak × av)
 | 0,_,_=>none
 | dW+1,x1,y1=>
  if decide (x1<(([([33]:Str),([45]:Str)]:List Str).length:Int))then
   au (idx ([([33]:Str),([45]:Str)]:List Str) x1) fun op1=>
   fD (dx y1 op1) fun x2 y2=>
   if x2 then
    fZ (bD y2) (fun e1 y4=>some (.bad e1,y4)) fun x3 y3=>
    some (.ok (ak.mk 6 op1 (ah.mk 0 false 0 ([]:Str) [] []) [x3] []),y3)
   else
    iZ bD bH dW (bF (x1+1)) y2
  else
   fZ (bH y1) (fun e2 y6=>some (.bad e2,y6)) fun x4 y5=>
   some (.ok x4,y5)
def qd(aM:av→Option (fG aB ak × av))(aW:av→Int→Option (fG aB ak × av))(bD bH cB:av→Option (fG aB ak × av))(cu:av→Str→Option (fG aB ak × av))(bW:av→Str→Option (fG aB (List ak) × av))(bQ:av→Option (fG aB ak × av))(qD:av):Option (fG aB ak × av):=
 iZ bD bH BIG 0 qD
def gJ(aM:av→Option (fG aB ak × av)):Nat→ak→av→Option (fG aB ak × av)
 | 0,_,_=>none
 | dW+1,e2,y3=>
  fD (dx y3 ([46]:Str)) fun x2 y4=>
  if x2 then
   fZ (jR y4) (fun e3 y6=>some (.bad e3,y6)) fun x3 y5=>
   au (
     if x3.kind !=1 then
      some true
     else
      qF x3.text) fun b1=>
   if b1 then
    fZ (gU y5 5) (fun e4 y8=>some (.bad e4,y8)) fun _ y7=>
    gJ aM dW (ak.mk 3 x3.text (ah.mk 0 false 0 ([]:Str) [] []) [e2] []) (av.mk y7.ts (bF (y7.at_+1)))
   else
    gJ aM dW (ak.mk 3 x3.text (ah.mk 0 false 0 ([]:Str) [] []) [e2] []) (av.mk y5.ts (bF (y5.at_+1)))
  else
   fD (dx y4 ([91]:Str)) fun x5 y9=>
   if x5 then
    fZ (aM y9) (fun e5 y11=>some (.bad e5,y11)) fun x6 y10=>
    fZ (fH y10 ([93]:Str)) (fun e6 y13=>some (.bad e6,y13)) fun _ y12=>
    gJ aM dW (ak.mk 4 ([]:Str) (ah.mk 0 false 0 ([]:Str) [] []) [e2,x6] []) y12
   else
    some (.ok e2,y9)
def qg(aM:av→Option (fG aB ak × av))(aW:av→Int→Option (fG aB ak × av))(bD bH cB:av→Option (fG aB ak × av))(cu:av→Str→Option (fG aB ak × av))(bW:av→Str→Option (fG aB (List ak) × av))(bQ:av→Option (fG aB ak × av))(qD:av):Option (fG aB ak × av):=
 fZ (cB qD) (fun e1 y2=>some (.bad e1,y2)) fun x1 y1=>
 gJ aM BIG x1 y1
def qH(aM:av→Option (fG aB ak × av))(aW:av→Int→Option (fG aB ak × av))(bD bH cB:av→Option (fG aB ak × av))(cu:av→Str→Option (fG aB ak × av))(bW:av→Str→Option (fG aB (List ak) × av))(bQ:av→Option (fG aB ak × av))(qD:av):Option (fG aB ak × av):=
 fZ (jR qD) (fun e1 y2=>some (.bad e1,y2)) fun x1 y1=>
 if x1.kind==2 then
  fD (strconv_Atoi x1.text) fun n1 x2=>
  au (rW (ah.mk 2 false n1 ([]:Str) [] [])) fun x3=>
  some (.ok x3,(av.mk y1.ts (bF (y1.at_+1))))
 else
  if x1.kind==3 then
   au (rW (ah.mk 3 false 0 x1.text [] [])) fun x4=>
   some (.ok x4,(av.mk y1.ts (bF (y1.at_+1))))
  else
   if x1.kind==1 then
    fZ (cu (av.mk y1.ts (bF (y1.at_+1))) x1.text) (fun e2 y4=>some (.bad e2,y4)) fun x5 y3=>
    some (.ok x5,y3)
   else
    fD (dx y1 ([40]:Str)) fun x6 y5=>
    if x6 then
     fZ (aM y5) (fun e3 y7=>some (.bad e3,y7)) fun x7 y6=>
     fZ (fH y6 ([41]:Str)) (fun e4 y9=>some (.bad e4,y9)) fun _ y8=>
     some (.ok x7,y8)
    else
     fD (dx y5 ([91]:Str)) fun x8 y10=>
     if x8 then
      fZ (bW y10 ([93]:Str)) (fun e5 y12=>some (.bad e5,y12)) fun x9 y11=>
      some (.ok (ak.mk 9 ([]:Str) (ah.mk 0 false 0 ([]:Str) [] []) x9 []),y11)
     else
      fD (dx y10 ([123]:Str)) fun Fh y13=>
      if Fh then
       fZ (bQ y13) (fun e6 y15=>some (.bad e6,y15)) fun Jj y14=>
       some (.ok Jj,y14)
      else
       fZ (gU y13 5) (fun e7 y17=>some (.bad e7,y17)) fun _ y16=>
       some (.ok (ak.mk 0 ([]:Str) (ah.mk 0 false 0 ([]:Str) [] []) [] []),y16)
def qG(aM:av→Option (fG aB ak × av))(aW:av→Int→Option (fG aB ak × av))(bD bH cB:av→Option (fG aB ak × av))(cu:av→Str→Option (fG aB ak × av))(bW:av→Str→Option (fG aB (List ak) × av))(bQ:av→Option (fG aB ak × av))(qD:av)(s1:Str):Option (fG aB ak × av):=
 if s1==([110,117,108,108]:Str)then
  au (rW (ah.mk 0 false 0 ([]:Str) [] [])) fun x1=>
  some (.ok x1,qD)
 else
  au (qF s1) fun x2=>
  if x2 then
   au (rW (ah.mk 1 (s1==([116,114,117,101]:Str)) 0 ([]:Str) [] [])) fun x3=>
   some (.ok x3,qD)
  else
   fD (dx qD ([40]:Str)) fun x4 y1=>
   if x4 then
    fZ (bW y1 ([41]:Str)) (fun e1 y3=>some (.bad e1,y3)) fun x5 y2=>
    some (.ok (ak.mk 5 s1 (ah.mk 0 false 0 ([]:Str) [] []) x5 []),y2)
   else
    some (.ok (ak.mk 2 s1 (ah.mk 0 false 0 ([]:Str) [] []) [] []),y1)
def kI(aM:av→Option (fG aB ak × av))(uP:Str):Nat→List ak→av→Option (fG aB (List ak) × av)
 | 0,_,_=>none
 | dW+1,bP,y2=>
  fZ (aM y2) (fun e1 y4=>some (.bad e1,y4)) fun x2 y3=>
  au (app bP [x2]) fun xk=>
  fD (dx y3 ([44]:Str)) fun x3 y5=>
  if !x3 then
   fZ (fH y5 uP) (fun e2 y7=>some (.bad e2,y7)) fun _ y6=>
   some (.ok xk,y6)
  else
   kI aM uP dW xk y5
def qI(aM:av→Option (fG aB ak × av))(aW:av→Int→Option (fG aB ak × av))(bD bH cB:av→Option (fG aB ak × av))(cu:av→Str→Option (fG aB ak × av))(bW:av→Str→Option (fG aB (List ak) × av))(bQ:av→Option (fG aB ak × av))(qD:av)(uP:Str):Option (fG aB (List ak) × av):=
 fD (dx qD uP) fun x1 y1=>
 if x1 then
  some (.ok [],y1)
 else
  kI aM uP BIG [] y1
def iF(aM:av→Option (fG aB ak × av)):Nat→ak→av→Option (fG aB ak × av)
 | 0,_,_=>none
 | dW+1,bP,y2=>
  fZ (jR y2) (fun e1 y4=>some (.bad e1,y4)) fun x2 y3=>
  if (x2.kind !=1)&&(x2.kind !=3)then
   fZ (gU y3 5) (fun e2 y6=>some (.bad e2,y6)) fun _ y5=>
   fZ (fH (av.mk y5.ts (bF (y5.at_+1))) ([58]:Str)) (fun e3 y8=>some (.bad e3,y8)) fun _ y7=>
   au (app bP.keys ([x2.text]:List Str)) fun x3=>
   fZ (aM y7) (fun e4 y10=>some (.bad e4,y10)) fun x4 y9=>
   au (app bP.args [x4]) fun x5=>
   fD (dx y9 ([44]:Str)) fun x6 y11=>
   if !x6 then
    fZ (fH y11 ([125]:Str)) (fun e5 y13=>some (.bad e5,y13)) fun _ y12=>
    some (.ok (ak.mk bP.kind bP.name bP.value x5 x3),y12)
   else
    iF aM dW (ak.mk bP.kind bP.name bP.value x5 x3) y11
  else
   fZ (fH (av.mk y3.ts (bF (y3.at_+1))) ([58]:Str)) (fun e6 y15=>some (.bad e6,y15)) fun _ y14=>
   au (app bP.keys ([x2.text]:List Str)) fun x7=>
   fZ (aM y14) (fun e7 y17=>some (.bad e7,y17)) fun x8 y16=>
   au (app bP.args [x8]) fun x9=>
   fD (dx y16 ([44]:Str)) fun Fh y18=>
   if !Fh then
    fZ (fH y18 ([125]:Str)) (fun e8 y20=>some (.bad e8,y20)) fun _ y19=>
    some (.ok (ak.mk bP.kind bP.name bP.value x9 x7),y19)
   else
    iF aM dW (ak.mk bP.kind bP.name bP.value x9 x7) y18
def nH(aM:av→Option (fG aB ak × av))(aW:av→Int→Option (fG aB ak × av))(bD bH cB:av→Option (fG aB ak × av))(cu:av→Str→Option (fG aB ak × av))(bW:av→Str→Option (fG aB (List ak) × av))(bQ:av→Option (fG aB ak × av))(qD:av):Option (fG aB ak × av):=
 fD (dx qD ([125]:Str)) fun x1 y1=>
 if x1 then
  some (.ok (ak.mk 10 ([]:Str) (ah.mk 0 false 0 ([]:Str) [] []) [] []),y1)
 else
  iF aM BIG (ak.mk 10 ([]:Str) (ah.mk 0 false 0 ([]:Str) [] []) [] []) y1
mutual
def aZ:Nat→av→Option (fG aB ak × av)
 | 0,_=>none
 | k+1,eU=>mK (aZ k) (bB k) (dH k) (dY k) (eF k) (eY k) (dR k) (dL k) eU
def bB:Nat→av→Int→Option (fG aB ak × av)
 | 0,_,_=>none
 | k+1,eU,X4=>ko (aZ k) (bB k) (dH k) (dY k) (eF k) (eY k) (dR k) (dL k) eU X4
def dH:Nat→av→Option (fG aB ak × av)
 | 0,_=>none
 | k+1,eU=>qd (aZ k) (bB k) (dH k) (dY k) (eF k) (eY k) (dR k) (dL k) eU
def dY:Nat→av→Option (fG aB ak × av)
 | 0,_=>none
 | k+1,eU=>qg (aZ k) (bB k) (dH k) (dY k) (eF k) (eY k) (dR k) (dL k) eU
def eF:Nat→av→Option (fG aB ak × av)
 | 0,_=>none
 | k+1,eU=>qH (aZ k) (bB k) (dH k) (dY k) (eF k) (eY k) (dR k) (dL k) eU
def eY:Nat→av→Str→Option (fG aB ak × av)
 | 0,_,_=>none
 | k+1,eU,sN=>qG (aZ k) (bB k) (dH k) (dY k) (eF k) (eY k) (dR k) (dL k) eU sN
def dR:Nat→av→Str→Option (fG aB (List ak) × av)
 | 0,_,_=>none
 | k+1,eU,Ez=>qI (aZ k) (bB k) (dH k) (dY k) (eF k) (eY k) (dR k) (dL k) eU Ez
def dL:Nat→av→Option (fG aB ak × av)
 | 0,_=>none
 | k+1,eU=>nH (aZ k) (bB k) (dH k) (dY k) (eF k) (eY k) (dR k) (dL k) eU
end
def rU(eU:av):Option (fG aB ak × av):=aZ BIG eU
def GH(eU:av)(X4:Int):Option (fG aB ak × av):=bB BIG eU X4
def LC(eU:av):Option (fG aB ak × av):=dH BIG eU
def LD(eU:av):Option (fG aB ak × av):=dY BIG eU
def MO(eU:av):Option (fG aB ak × av):=eF BIG eU
def MN(eU:av)(sN:Str):Option (fG aB ak × av):=eY BIG eU sN
def MP(eU:av)(Ez:Str):Option (fG aB (List ak) × av):=dR BIG eU Ez
def Jm(eU:av):Option (fG aB ak × av):=dL BIG eU
def FM(iX:List aA):Option (ak × Int × Int):=
 fZ (rU (av.mk iX 0)) (fun f1 _=>some ((ak.mk 0 ([]:Str) (ah.mk 0 false 0 ([]:Str) [] []) [] []),f1.at_,f1.code)) fun e1 r1=>
 some (e1,r1.at_,0)
def uf(kT:ak→Option Int)(e1:ak):Nat→Int→Int→Option Int
 | 0,_,_=>none
 | dW+1,n1,x1=>
  if decide (x1<(e1.args.length:Int))then
   au (idx e1.args x1) fun e2=>
   au (kT e2) fun x2=>
   uf kT e1 dW (bF (n1+x2)) (bF (x1+1))
  else
   some n1
def zJ(kT:ak→Option Int)(e1:ak):Option Int:=
 uf kT e1 BIG 1 0
def pO:Nat→ak→Option Int
 | 0,_=>none
 | k+1,jo=>zJ (pO k) jo
def Du(jo:ak):Option Int:=pO BIG jo
def FL(v1:ah):Option Bool:=
 some ((((((v1.kind==0)&&(!v1.dZ))&&(v1.eB==0))&&(v1.bV==([]:Str)))&&((v1.aO.length:Int)==0))&&((v1.keys.length:Int)==0))
def oz(s1:Str):Option Bool:=
 au (yU s1) fun x1=>
 if x1 then
  au (qF s1) fun x2=>
  some (!x2)
 else
  some false
def zF(e1:ak):Option Bool:=
 if e1.kind==2 then
  oz e1.name
 else
  if e1.kind==3 then
   oz e1.name
  else
   if e1.kind==5 then
    oz e1.name
   else
    if e1.kind==6 then
     some ((e1.name==([33]:Str))||(e1.name==([45]:Str)))
    else
     if e1.kind==7 then
      au (gT e1.name) fun x4=>
      some (decide (0<x4))
     else
      some (e1.name==([]:Str))
def zH(e1:ak):Option Bool:=
 if e1.kind==1 then
  some ((e1.args.length:Int)==0)
 else
  if e1.kind==2 then
   some ((e1.args.length:Int)==0)
  else
   if e1.kind==3 then
    some ((e1.args.length:Int)==1)
   else
    if e1.kind==6 then
     some ((e1.args.length:Int)==1)
    else
     if e1.kind==4 then
      some ((e1.args.length:Int)==2)
     else
      if e1.kind==7 then
       some ((e1.args.length:Int)==2)
      else
       if e1.kind==8 then
        some ((e1.args.length:Int)==3)
       else
        some true
def gL(s1:List Str)(f1:Str→Option Bool):Nat→Int→Option Int
 | 0,_=>none
 | dW+1,i1=>
  if decide (i1<(s1.length:Int))then
   au (idx s1 i1) fun e1=>
   au (f1 e1) fun x1=>
   if x1 then
    some i1
   else
    gL s1 f1 dW (bF (i1+1))
  else
   some (-1)
def jF(s1:List Str)(f1:Str→Option Bool):Option Int:=
 gL s1 f1 BIG 0
def gM(s1:List Str)(f1:Str→Option Bool):Option Bool:=
 au (jF s1 f1) fun x1=>
 some (decide (0≤x1))
def kL(Ak:Str):Option Bool:=
 some ((decide ((Ak.length:Int)<1))||(decide (64<(Ak.length:Int))))
def zG(e1:ak):Option Bool:=
 if e1.kind !=10 then
  some ((e1.keys.length:Int)==0)
 else
  if (e1.keys.length:Int)==(e1.args.length:Int)then
   au (gM e1.keys kL) fun x1=>
   some (!x1)
  else
   some false
def lF{β:Type}(go:β→ah→Int→Option (Bool × β))(v1:ah)(bM:Int):Nat→β→Int→Option (Bool × β)
 | 0,_,_=>none
 | dW+1,s1,i1=>
  if decide (i1<(v1.aO.length:Int))then
   au (idx v1.aO i1) fun x1=>
   fD (go s1 x1 (bF (bM+1))) fun b1 s2=>
   if !b1 then
    some (false,s2)
   else
    lF go v1 bM dW s2 (bF (i1+1))
  else
   some (true,s1)
def vY{β:Type}(go:β→ah→Int→Option (Bool × β))(y:β→Int→ah→Option (Bool × β))(s1:β)(v1:ah)(bM:Int):Option (Bool × β):=
 fD (y s1 bM v1) fun b1 s2=>
 if !b1 then
  some (false,s2)
 else
  lF go v1 bM BIG s2 0
def gH{β:Type}(y:β→Int→ah→Option (Bool × β)):Nat→β→ah→Int→Option (Bool × β)
 | 0,_,_,_=>none
 | k+1,s1,v1,bM=>vY (gH y k) y s1 v1 bM
def Et{β:Type}(y:β→Int→ah→Option (Bool × β))(s1:β)(v1:ah)(bM:Int):Option (Bool × β):=gH y BIG s1 v1 bM
def Df(v1:ah):Option Bool:=
 some ((((((v1.kind==1)||(!v1.dZ))&&((v1.kind==2)||(v1.eB==0)))&&((v1.kind==3)||(v1.bV==([]:Str))))&&(((v1.kind==4)||(v1.kind==5))||((v1.aO.length:Int)==0)))&&((v1.kind==5)||((v1.keys.length:Int)==0)))
def FQ(c1:UInt8):Option Bool:=
 some ((decide (48≤(c1.toNat:Int)))&&(decide ((c1.toNat:Int)≤57)))
def zU(s1:Str):Nat→Int→Option Int
 | 0,_=>none
 | dW+1,n1=>
  au (
    if decide (n1<(s1.length:Int))then
     au (idx s1 n1) fun x1=>
     FQ x1
    else
     some false) fun b1=>
  if b1 then
   zU s1 dW (bF (n1+1))
  else
   some n1
def Ee(s1:Str):Option Int:=
 zU s1 BIG 0
def iK(c1:UInt8):Nat→Str→Option Str
 | 0,_=>none
 | dW+1,s2=>
  au (
    if decide (0<(s2.length:Int))then
     au (idx s2 0) fun x1=>
     some ((x1.toNat:Int)==(c1.toNat:Int))
    else
     some false) fun b1=>
  if b1 then
   au (sl s2 1 (s2.length:Int)) fun s3=>
   iK c1 dW s3
  else
   some s2
def strings_trimLeftByte(s1:Str)(c1:UInt8):Option Str:=
 iK c1 BIG s1
def o7(s1 IK:Str):Option Str:=
 if (s1==([]:Str))||(IK==([]:Str))then
  some s1
 else
  au (
    if (IK.length:Int)==1 then
     au (idx IK 0) fun x1=>
     some (decide ((x1.toNat:Int)<128))
    else
     some false) fun b1=>
  if b1 then
   au (idx IK 0) fun x2=>
   strings_trimLeftByte s1 x2
  else
   none
def cmp_isNaN_int(x1:Int):Option Bool:=
 some (x1 !=x1)
def cmp_Compare_int(x1 y1:Int):Option Int:=
 au (cmp_isNaN_int x1) fun Zo=>
 au (cmp_isNaN_int y1) fun QB=>
 if Zo then
  if QB then
   some 0
  else
   some (-1)
 else
  if QB then
   some 1
  else
   if decide (x1<y1)then
    some (-1)
   else
    if decide (y1<x1)then
     some 1
    else
     some 0
def cmp_isNaN_string(x1:Str):Option Bool:=
 some (!(x1==x1))
def mX(x1 y1:Str):Option Int:=
 au (cmp_isNaN_string x1) fun Zo=>
 au (cmp_isNaN_string y1) fun QB=>
 if Zo then
  if QB then
   some 0
  else
   some (-1)
 else
  if QB then
   some 1
  else
   if Go.Op.bytesLess x1 y1 then
    some (-1)
   else
    if !(Go.Op.bytesLess x1 y1||x1==y1)then
     some 1
    else
     some 0
def xH(JA:List Int):Nat→Int→Option Int
 | 0,_=>none
 | dW+1,x1=>
  if decide (x1<(JA.length:Int))then
   au (idx JA x1) fun ahe=>
   if ahe !=0 then
    some ahe
   else
    xH JA dW (bF (x1+1))
  else
   some 0
def E5(JA:List Int):Option Int:=
 xH JA BIG 0
def xB(a1 b1:Str):Option Int:=
 au (o7 a1 ([48]:Str)) fun x1=>
 au (o7 b1 ([48]:Str)) fun y1=>
 au (cmp_Compare_int (x1.length:Int) (y1.length:Int)) fun x2=>
 au (mX x1 y1) fun x3=>
 au (cmp_Compare_int (a1.length:Int) (b1.length:Int)) fun x4=>
 E5 ([x2,x3,x4]:List Int)
def vN(x1:UInt8):Option Bool:=
 some ((x1.toNat:Int) !=(x1.toNat:Int))
def sG(x1 y1:UInt8):Option Int:=
 au (vN x1) fun Zo=>
 au (vN y1) fun QB=>
 if Zo then
  if QB then
   some 0
  else
   some (-1)
 else
  if QB then
   some 1
  else
   if decide ((x1.toNat:Int)<(y1.toNat:Int))then
    some (-1)
   else
    if decide ((y1.toNat:Int)<(x1.toNat:Int))then
     some 1
    else
     some 0
def j5:Nat→Str→Str→Option Int
 | 0,_,_=>none
 | dW+1,a2,b2=>
  if (!(a2==([]:Str)))&&(!(b2==([]:Str)))then
   au (Ee a2) fun n1=>
   au (Ee b2) fun m1=>
   if (decide (0<n1))&&(decide (0<m1))then
    au (sl a2 0 n1) fun x1=>
    au (sl b2 0 m1) fun x2=>
    au (xB x1 x2) fun c1=>
    if c1 !=0 then
     some c1
    else
     au (sl a2 n1 (a2.length:Int)) fun a3=>
     au (sl b2 m1 (b2.length:Int)) fun b3=>
     j5 dW a3 b3
   else
    au (idx a2 0) fun x3=>
    au (idx b2 0) fun x4=>
    if (x3.toNat:Int) !=(x4.toNat:Int)then
     au (idx a2 0) fun x5=>
     au (idx b2 0) fun x6=>
     sG x5 x6
    else
     au (sl a2 1 (a2.length:Int)) fun a4=>
     au (sl b2 1 (b2.length:Int)) fun b4=>
     j5 dW a4 b4
  else
   cmp_Compare_int (a2.length:Int) (b2.length:Int)
def iR(a1 b1:Str):Option Int:=
 j5 BIG a1 b1
def rO(v1:ah):Nat→Int→Option Bool
 | 0,_=>none
 | dW+1,i1=>
  if decide (i1<(v1.keys.length:Int))then
   au (idx v1.keys i1) fun Ak=>
   au (
     if (decide ((Ak.length:Int)<1))||(decide (64<(Ak.length:Int)))then
      some true
     else
      if decide (0<i1)then
       au (idx v1.keys (bF (i1-1))) fun e1=>
       au (iR e1 Ak) fun x1=>
       some (decide (0≤x1))
      else
       some false) fun b1=>
   if b1 then
    some false
   else
    rO v1 dW (bF (i1+1))
  else
   some true
def BL(v1:ah):Option Bool:=
 if (v1.keys.length:Int) !=(v1.aO.length:Int)then
  some false
 else
  rO v1 BIG 0
def Eu(v1:ah)(bM:Int):Option Int:=
 if decide (16<bM)then
  some 13
 else
  au (
    if (decide (v1.kind<0))||(decide (5<v1.kind))then
     some true
    else
     au (Df v1) fun x1=>
     some (!x1)) fun b1=>
  if b1 then
   some 1
  else
   if (decide (v1.eB<(-9007199254740992)))||(decide (9007199254740992<v1.eB))then
    some 2
   else
    if ((decide (4096<(v1.bV.length:Int)))||(decide (1024<(v1.aO.length:Int))))||(decide (1024<(v1.keys.length:Int)))then
     some 3
    else
     au (
       if v1.kind==5 then
        au (BL v1) fun x2=>
        some (!x2)
       else
        some false) fun b2=>
     if b2 then
      some 1
     else
      if (((v1.kind==4)||(v1.kind==5))&&((v1.aO.length:Int)==0))&&(bM==16)then
       some 13
      else
       some 0
def mY(s1:Option Int)(bM:Int)(x1:ah):Option (Bool × Option Int):=
 match s1 with
 | some _=>none
 | none=>
  au (Eu x1 bM) fun e1=>
  if !(e1==0)then
   some (false,some e1)
  else
   some (true,none)
def kD(v1:ah):Option Int:=
 fD (Et mY none v1 1) fun _ s1=>
 some (s1.getD 0)
def pK(l1:List Str):Nat→Int→List (Str × Int)→Option Bool
 | 0,_,_=>none
 | dW+1,x1,y1=>
  if decide (x1<(l1.length:Int))then
   au (idx l1 x1) fun s1=>
   if decide (1<(nX (sJ y1 s1 (bF ((nX y1 s1)+1))) s1))then
    some true
   else
    pK l1 dW (bF (x1+1)) (sJ y1 s1 (bF ((nX y1 s1)+1)))
  else
   some false
def t_(l1:List Str):Option Bool:=
 pK l1 BIG 0 []
def Ce(e1:ak)(bM:Int):Option Int:=
 if decide (16<bM)then
  some 13
 else
  au (
    if (decide (e1.kind<1))||(decide (10<e1.kind))then
     some true
    else
     if e1.kind !=1 then
      au (FL e1.value) fun x1=>
      some (!x1)
     else
      some false) fun b1=>
  au (
    if b1 then
     some true
    else
     au (zF e1) fun x2=>
     some (!x2)) fun b3=>
  au (
    if b3 then
     some true
    else
     au (zH e1) fun x3=>
     some (!x3)) fun b4=>
  au (
    if b4 then
     some true
    else
     au (zG e1) fun x4=>
     some (!x4)) fun b5=>
  if b5 then
   some 1
  else
   au (
     if e1.kind==1 then
      au (kD e1.value) fun x5=>
      some (x5 !=0)
     else
      some false) fun b6=>
   if b6 then
    kD e1.value
   else
    if decide (1024<(e1.args.length:Int))then
     some 3
    else
     au (t_ e1.keys) fun x7=>
     if x7 then
      some 7
     else
      some 0
def tZ(kS:ak→Int→Option Int)(e1:ak)(bM:Int):Nat→Int→Option Int
 | 0,_=>none
 | dW+1,x1=>
  if decide (x1<(e1.args.length:Int))then
   au (idx e1.args x1) fun e2=>
   au (kS e2 (bF (bM+1))) fun f2=>
   if f2 !=0 then
    some f2
   else
    tZ kS e1 bM dW (bF (x1+1))
  else
   some 0
def zD(kS:ak→Int→Option Int)(e1:ak)(bM:Int):Option Int:=
 au (Ce e1 bM) fun f1=>
 if f1 !=0 then
  some f1
 else
  tZ kS e1 bM BIG 0
def pJ:Nat→ak→Int→Option Int
 | 0,_,_=>none
 | k+1,jo,gI=>zD (pJ k) jo gI
def Ii(jo:ak)(gI:Int):Option Int:=pJ BIG jo gI
def je(e1:ak):Option Int:=
 au (Du e1) fun x1=>
 if decide (4096<x1)then
  some 15
 else
  Ii e1 1
def Cg(iX:List aA):Option (ak × Int × Int):=
 mq (FM iX) fun x1 n1 nL=>
 if nL !=0 then
  some ((ak.mk 0 ([]:Str) (ah.mk 0 false 0 ([]:Str) [] []) [] []),n1,nL)
 else
  au (je x1) fun Hf=>
  if Hf !=0 then
   some ((ak.mk 0 ([]:Str) (ah.mk 0 false 0 ([]:Str) [] []) [] []),0,Hf)
  else
   some (x1,n1,0)
def Dr(iX:List aA)(n1:Int)(bU:Str):Option Int:=
 if decide (n1<(iX.length:Int))then
  au (idx iX n1) fun e1=>
  some e1.at_
 else
  some (bU.length:Int)
def zI(bU:Str):Option (ak × Int × Int):=
 mq (oD bU) fun iX dP nL=>
 if nL !=0 then
  some ((ak.mk 0 ([]:Str) (ah.mk 0 false 0 ([]:Str) [] []) [] []),dP,nL)
 else
  mq (Cg iX) fun x1 n1 Hf=>
  if Hf !=0 then
   au (Dr iX n1 bU) fun x2=>
   some ((ak.mk 0 ([]:Str) (ah.mk 0 false 0 ([]:Str) [] []) [] []),x2,Hf)
  else
   if decide (n1<(iX.length:Int))then
    au (idx iX n1) fun e1=>
    some ((ak.mk 0 ([]:Str) (ah.mk 0 false 0 ([]:Str) [] []) [] []),e1.at_,5)
   else
    some (x1,0,0)
def kY(kF:List aS)(text1:Str):Option (List aS):=
 if decide (0<(text1.length:Int))then app kF [(aS.mk text1 false (ak.mk 0 ([]:Str) (ah.mk 0 false 0 ([]:Str) [] []) [] []))]else some kF
def kR(s1:Str):Nat→Int→List aS→Str→Option (List aS × Int × Int)
 | 0,_,_,_=>none
 | dW+1,dP,kF,text1=>
  if decide (dP<(s1.length:Int))then
   au (sl s1 dP (s1.length:Int)) fun NJ=>
   au (strings_HasPrefix NJ ([36,36]:Str)) fun b1=>
   if b1 then
    au (app text1 [36]) fun ZJ=>
    kR s1 dW (bF (dP+2)) kF ZJ
   else
    au (strings_HasPrefix NJ ([36,123]:Str)) fun b2=>
    if b2 then
     au (zS s1 (bF (dP+2))) fun uP=>
     if decide (uP<0)then
      some ([],dP,4)
     else
      au (sl s1 (bF (dP+2)) uP) fun x1=>
      mq (zI x1) fun e1 n1 nL=>
      if nL !=0 then
       some ([],(bF ((bF (dP+2))+n1)),nL)
      else
       au (kY kF text1) fun Yo=>
       au (app Yo [(aS.mk ([]:Str) true e1)]) fun Yn=>
       kR s1 dW (bF (uP+1)) Yn []
    else
     au (idx s1 dP) fun c1=>
     au (app text1 [c1]) fun aht=>
     kR s1 dW (bF (dP+1)) kF aht
  else
   au (kY kF text1) fun adX=>
   some (adX,0,0)
def oF(s1:Str):Option (List aS × Int × Int):=
 if decide (4096<(s1.length:Int))then
  some ([],0,3)
 else
  kR s1 BIG 0 [] []
def Cq(dJ:List aF):Nat→Int→List (Str × Int)→Option Int
 | 0,_,_=>none
 | dW+1,x1,y1=>
  if decide (x1<(dJ.length:Int))then
   au (idx dJ x1) fun e1=>
   au (je (ak.mk 2 e1.name (ah.mk 0 false 0 ([]:Str) [] []) [] [])) fun x2=>
   if x2 !=0 then
    some 1
   else
    au (kD e1.value) fun e2=>
    if e2 !=0 then
     some e2
    else
     if decide (1<(nX (sJ y1 e1.name (bF ((nX y1 e1.name)+1))) e1.name))then
      some 7
     else
      Cq dJ dW (bF (x1+1)) (sJ y1 e1.name (bF ((nX y1 e1.name)+1)))
  else
   some 0
def G9(dJ:List aF):Option Int:=
 if decide (1024<(dJ.length:Int))then
  some 3
 else
  Cq dJ BIG 0 []
def FV(e1:ak)(dJ:List aF):Option (List aF × Int):=
 au (G9 dJ) fun f1=>
 if f1 !=0 then
  some ([],f1)
 else
  au (je e1) fun f2=>
  if f2 !=0 then
   some ([],f2)
  else
   some (dJ,0)
def Bb(e1:Int):Option (fG aG Unit):=
 some (.bad (aG.mk e1))
def pV(s1:List aF)(name1:Str):Nat→Int→Option (fG aG ah)
 | 0,_=>none
 | dW+1,x1=>
  if decide (x1<(s1.length:Int))then
   au (idx s1 x1) fun e1=>
   if e1.name==name1 then
    some (.ok e1.value)
   else
    pV s1 name1 dW (bF (x1+1))
  else
   dU (Bb 10) (fun e2=>some (.bad e2)) fun _=>
   some (.ok (ah.mk 0 false 0 ([]:Str) [] []))
def um(s1:List aF)(name1:Str):Option (fG aG ah):=
 pV s1 name1 BIG 0
def mW(s1:Str):Option ah:=
 some (ah.mk 3 false 0 s1 [] [])
def iU(v1:ah)(eP:Int):Option Bool:=
 some (v1.kind==eP)
def dV(ok1:Bool)(e1:Int):Option (fG aG Unit):=
 if !ok1 then
  dU (Bb e1) (fun e2=>some (.bad e2)) fun _=>
  some (.ok ())
 else
  some (.ok ())
def iH(s1:List Str)(v1:Str):Nat→Int→Option Int
 | 0,_=>none
 | dW+1,i1=>
  if decide (i1<(s1.length:Int))then
   au (idx s1 i1) fun e1=>
   if v1==e1 then
    some i1
   else
    iH s1 v1 dW (bF (i1+1))
  else
   some (-1)
def jh(s1:List Str)(v1:Str):Option Int:=
 iH s1 v1 BIG 0
def kQ(s1:List Str):Option (List Str):=
 app [] s1
def uU(lQ:ah→Option ah)(v1:ah):Nat→Int→ah→Option ah
 | 0,_,_=>none
 | dW+1,x2,bP=>
  if decide (x2<(v1.aO.length:Int))then
   au (idx v1.aO x2) fun e1=>
   au (lQ e1) fun x3=>
   au (app bP.aO [x3]) fun x4=>
   uU lQ v1 dW (bF (x2+1)) (ah.mk bP.kind bP.dZ bP.eB bP.bV x4 bP.keys)
  else
   some bP
def Bl(lQ:ah→Option ah)(v1:ah):Option ah:=
 au (kQ v1.keys) fun x1=>
 uU lQ v1 BIG 0 (ah.mk v1.kind v1.dZ v1.eB v1.bV [] x1)
def oK:Nat→ah→Option ah
 | 0,_=>none
 | k+1,nS=>Bl (oK k) nS
def nk(nS:ah):Option ah:=oK BIG nS
def Aw(v1:ah)(key1:Str):Option (ah × Bool):=
 au (jh v1.keys key1) fun i1=>
 if ((v1.kind !=5)||(decide (i1<0)))||(decide ((v1.aO.length:Int)≤i1))then
  some ((ah.mk 0 false 0 ([]:Str) [] []),false)
 else
  au (idx v1.aO i1) fun e1=>
  au (nk e1) fun x1=>
  some (x1,true)
def yF(m1 key1:ah):Option (fG aG ah):=
 au (iU m1 5) fun x1=>
 au (
   if x1 then
    iU key1 3
   else
    some false) fun b1=>
 dU (dV b1 9) (fun e1=>some (.bad e1)) fun _=>
 fD (Aw m1 key1.bV) fun x3 ok1=>
 dU (dV ok1 8) (fun e2=>some (.bad e2)) fun _=>
 some (.ok x3)
def wI(a1 i1:ah):Option (fG aG ah):=
 au (iU a1 4) fun x1=>
 au (
   if x1 then
    iU i1 2
   else
    some false) fun b1=>
 if b1 then
  dU (dV ((decide (0≤i1.eB))&&(decide (i1.eB<(a1.aO.length:Int)))) 8) (fun e1=>some (.bad e1)) fun _=>
  au (idx a1.aO i1.eB) fun e2=>
  some (.ok e2)
 else
  dU (yF a1 i1) (fun e3=>some (.bad e3)) fun x3=>
  some (.ok x3)
def yG(name1:Str):Option Int:=
 if name1==([108,101,110]:Str)then
  some 1
 else
  if name1==([108,111,119,101,114]:Str)then
   some 1
  else
   if name1==([117,112,112,101,114]:Str)then
    some 1
   else
    if name1==([115,116,114,105,110,103]:Str)then
     some 1
    else
     if name1==([105,110,116]:Str)then
      some 1
     else
      if name1==([107,101,121,115]:Str)then
       some 1
      else
       if name1==([99,111,110,116,97,105,110,115]:Str)then
        some 2
       else
        if name1==([106,111,105,110]:Str)then
         some 2
        else
         if name1==([115,112,108,105,116]:Str)then
          some 2
         else
          if name1==([115,116,97,114,116,115,119,105,116,104]:Str)then
           some 2
          else
           if name1==([101,110,100,115,119,105,116,104]:Str)then
            some 2
           else
            if name1==([100,101,102,97,117,108,116]:Str)then
             some 2
            else
             some 0
def qO(n1:Int):Option ah:=
 some (ah.mk 2 false n1 ([]:Str) [] [])
def EY(l1:List ah):Option ah:=
 some (ah.mk 4 false 0 ([]:Str) l1 [])
def zY(l1:List Str):Nat→Int→ah→Option ah
 | 0,_,_=>none
 | dW+1,x1,bP=>
  if decide (x1<(l1.length:Int))then
   au (idx l1 x1) fun s1=>
   au (mW s1) fun x2=>
   au (app bP.aO [x2]) fun x3=>
   zY l1 dW (bF (x1+1)) (ah.mk bP.kind bP.dZ bP.eB bP.bV x3 bP.keys)
  else
   some bP
def A_(l1:List Str):Option ah:=
 zY l1 BIG 0 (ah.mk 4 false 0 ([]:Str) [] [])
def qL(b1:Bool):Option Str:=
 if b1 then
  some ([116,114,117,101]:Str)
 else
  some ([102,97,108,115,101]:Str)
def strconv_FormatBool(b1:Bool):Option Str:=
 qL b1
def ni(s1:Str):Nat→Int→Str→Option Str
 | 0,_,_=>none
 | dW+1,i1,b2=>
  if decide (i1<(s1.length:Int))then
   au (idx s1 i1) fun c1=>
   if ((c1.toNat:Int)==34)||((c1.toNat:Int)==92)then
    au (app b2 [92]) fun b3=>
    au (app b3 [c1]) fun b4=>
    ni s1 dW (bF (i1+1)) b4
   else
    if (c1.toNat:Int)==10 then
     au (app b2 ([92,110]:Str)) fun b5=>
     ni s1 dW (bF (i1+1)) b5
    else
     if (c1.toNat:Int)==9 then
      au (app b2 ([92,116]:Str)) fun b6=>
      ni s1 dW (bF (i1+1)) b6
     else
      if (decide (32≤(c1.toNat:Int)))&&(decide ((c1.toNat:Int)≤126))then
       au (app b2 [c1]) fun b7=>
       ni s1 dW (bF (i1+1)) b7
      else
       au (app b2 ([92,120]:Str)) fun b8=>
       au (idx ([48,49,50,51,52,53,54,55,56,57,97,98,99,100,101,102]:Str) ((c1/16).toNat:Int)) fun x1=>
       au (app b8 [x1]) fun b9=>
       au (idx ([48,49,50,51,52,53,54,55,56,57,97,98,99,100,101,102]:Str) ((c1%16).toNat:Int)) fun x2=>
       au (app b9 [x2]) fun b10=>
       ni s1 dW (bF (i1+1)) b10
  else
   app b2 [34]
def BK(s1:Str):Option Str:=
 au (app [] [34]) fun b1=>
 ni s1 BIG 0 b1
def strings_Join(l1:List Str)(t1:Str):Option Str:=
 if l1.length≤140737488355328∧(nA l1 t1).length≤140737488355328 then some (nA l1 t1)else none
def rM(eZ:ah→Option Str)(v1:ah):Nat→List Str→Int→Option Str
 | 0,_,_=>none
 | dW+1,acd,i1=>
  if decide (i1<(v1.aO.length:Int))then
   au (idx v1.aO i1) fun e1=>
   if v1.kind==5 then
    au (idx v1.keys i1) fun e2=>
    au (BK e2) fun x4=>
    au (app x4 ([58,32]:Str)) fun x5=>
    au (eZ e1) fun x6=>
    au (app x5 x6) fun x7=>
    au (app acd ([x7]:List Str)) fun aoc=>
    rM eZ v1 dW aoc (bF (i1+1))
   else
    au (eZ e1) fun x8=>
    au (app acd ([x8]:List Str)) fun aob=>
    rM eZ v1 dW aob (bF (i1+1))
  else
   au (strings_Join acd ([44,32]:Str)) fun s3=>
   if v1.kind==5 then
    au (app ([123]:Str) s3) fun x9=>
    app x9 ([125]:Str)
   else
    au (app ([91]:Str) s3) fun Jj=>
    app Jj ([93]:Str)
def vZ(eZ:ah→Option Str)(v1:ah):Nat→List Str→Int→Option Str
 | 0,_,_=>none
 | kk2+1,ah6,i2=>
  if decide (i2<(v1.aO.length:Int))then
   au (idx v1.aO i2) fun e3=>
   au (idx v1.keys i2) fun e4=>
   au (BK e4) fun Ml=>
   au (app Ml ([58,32]:Str)) fun Vu=>
   au (eZ e3) fun Ro=>
   au (app Vu Ro) fun Lx=>
   au (app ah6 ([Lx]:List Str)) fun aoa=>
   vZ eZ v1 kk2 aoa (bF (i2+1))
  else
   au (strings_Join ah6 ([44,32]:Str)) fun s5=>
   au (app ([123]:Str) s5) fun Wo=>
   app Wo ([125]:Str)
def xJ(eZ:ah→Option Str)(v1:ah):Option Str:=
 if v1.kind==1 then
  strconv_FormatBool v1.dZ
 else
  if v1.kind==2 then
   strconv_Itoa v1.eB
  else
   if v1.kind==3 then
    BK v1.bV
   else
    if v1.kind==4 then
     rM eZ v1 BIG [] 0
    else
     if v1.kind==5 then
      vZ eZ v1 BIG [] 0
     else
      some ([110,117,108,108]:Str)
def xI:Nat→ah→Option Str
 | 0,_=>none
 | k+1,nS=>xJ (xI k) nS
def Bj(nS:ah):Option Str:=xI BIG nS
def Av(v1:ah):Option (Str × Int):=
 if (v1.kind==4)||(v1.kind==5)then
  some (([]:Str),9)
 else
  au (kD v1) fun e1=>
  if e1 !=0 then
   some (([]:Str),e1)
  else
   if v1.kind==0 then
    some (([]:Str),0)
   else
    if v1.kind==3 then
     some (v1.bV,0)
    else
     au (Bj v1) fun x1=>
     some (x1,0)
def sw(s1:Str)(lo1 hi1:UInt8)(Gq:Int):Nat→Int→Str→Option Str
 | 0,_,_=>none
 | dW+1,i1,b1=>
  if decide (i1<(s1.length:Int))then
   au (idx s1 i1) fun x1=>
   au (
     if decide ((lo1.toNat:Int)≤(x1.toNat:Int))then
      au (idx s1 i1) fun x2=>
      some (decide ((x2.toNat:Int)≤(hi1.toNat:Int)))
     else
      some false) fun b2=>
   if b2 then
    au (idx s1 i1) fun x3=>
    au (app b1 [(Ft.byteOf (bF ((x3.toNat:Int)+Gq)))]) fun b3=>
    sw s1 lo1 hi1 Gq dW (bF (i1+1)) b3
   else
    au (idx s1 i1) fun x4=>
    au (app b1 [x4]) fun b4=>
    sw s1 lo1 hi1 Gq dW (bF (i1+1)) b4
  else
   some b1
def za(s1:Str)(lo1 hi1:UInt8)(Gq:Int):Option Str:=
 sw s1 lo1 hi1 Gq BIG 0 []
def vL(s1:Str):Option (Int × Bool):=
 fD (strconv_Atoi s1) fun n1 Uu=>
 au (
   if Uu.isSome then
    some true
   else
    au (strconv_Itoa n1) fun x1=>
    some (!(x1==s1))) fun b1=>
 if (b1||(decide (n1<(-9007199254740992))))||(decide (9007199254740992<n1))then
  some (0,false)
 else
  some (n1,true)
def Kt(name1:Str)(v1:ah):Option (fG aG ah):=
 if name1==([108,101,110]:Str)then
  au (iU v1 3) fun x1=>
  au (
    if x1 then
     some true
    else
     iU v1 4) fun b1=>
  au (
    if b1 then
     some true
    else
     iU v1 5) fun b2=>
  dU (dV b2 9) (fun e1=>some (.bad e1)) fun _=>
  au (qO (bF ((v1.bV.length:Int)+(v1.aO.length:Int)))) fun x4=>
  some (.ok x4)
 else
  if name1==([107,101,121,115]:Str)then
   au (iU v1 5) fun x5=>
   dU (dV x5 9) (fun e2=>some (.bad e2)) fun _=>
   au (A_ v1.keys) fun x6=>
   some (.ok x6)
  else
   if name1==([115,116,114,105,110,103]:Str)then
    fD (Av v1) fun t1 e3=>
    dU (dV (e3==0) e3) (fun e4=>some (.bad e4)) fun _=>
    au (mW t1) fun x7=>
    some (.ok x7)
   else
    au (iU v1 3) fun x8=>
    dU (dV x8 9) (fun e5=>some (.bad e5)) fun _=>
    if name1==([108,111,119,101,114]:Str)then
     au (za v1.bV 65 90 32) fun x9=>
     au (mW x9) fun Fh=>
     some (.ok Fh)
    else
     if name1==([117,112,112,101,114]:Str)then
      au (za v1.bV 97 122 (-32)) fun Jj=>
      au (mW Jj) fun LA=>
      some (.ok LA)
     else
      fD (vL v1.bV) fun n1 ok1=>
      dU (dV ok1 1) (fun e6=>some (.bad e6)) fun _=>
      au (qO n1) fun Ml=>
      some (.ok Ml)
def uT(b1:Bool):Option Int:=
 if b1 then
  some 1
 else
  some 0
def bX(yj yg:List ah)(Aa:ah→ah→Option Int):Nat→Int→Option Int
 | 0,_=>none
 | dW+1,i1=>
  if decide (i1<(yj.length:Int))then
   au (idx yj i1) fun e1=>
   if decide ((yg.length:Int)≤i1)then
    some 1
   else
    au (idx yg i1) fun e2=>
    au (Aa e1 e2) fun c1=>
    if c1 !=0 then
     some c1
    else
     bX yj yg Aa dW (bF (i1+1))
  else
   if decide ((yj.length:Int)<(yg.length:Int))then
    some (-1)
   else
    some 0
def bG(yj yg:List ah)(Aa:ah→ah→Option Int):Option Int:=
 bX yj yg Aa BIG 0
def dQ(yj yg:List Str)(Aa:Str→Str→Option Int):Nat→Int→Option Int
 | 0,_=>none
 | dW+1,i1=>
  if decide (i1<(yj.length:Int))then
   au (idx yj i1) fun arJ=>
   if decide ((yg.length:Int)≤i1)then
    some 1
   else
    au (idx yg i1) fun arI=>
    au (Aa arJ arI) fun c1=>
    if c1 !=0 then
     some c1
    else
     dQ yj yg Aa dW (bF (i1+1))
  else
   if decide ((yj.length:Int)<(yg.length:Int))then
    some (-1)
   else
    some 0
def dB(yj yg:List Str)(Aa:Str→Str→Option Int):Option Int:=
 dQ yj yg Aa BIG 0
def xK(j6:ah→ah→Option Int)(a1 b1:ah):Option Int:=
 au (cmp_Compare_int a1.kind b1.kind) fun c1=>
 if c1 !=0 then
  some c1
 else
  if a1.kind==1 then
   au (uT a1.dZ) fun x1=>
   au (uT b1.dZ) fun x2=>
   cmp_Compare_int x1 x2
  else
   if a1.kind==2 then
    cmp_Compare_int a1.eB b1.eB
   else
    if a1.kind==3 then
     mX a1.bV b1.bV
    else
     if a1.kind==4 then
      bG a1.aO b1.aO j6
     else
      if a1.kind==5 then
       au (dB a1.keys b1.keys iR) fun c2=>
       if c2 !=0 then
        some c2
       else
        bG a1.aO b1.aO j6
      else
       some 0
def jg:Nat→ah→ah→Option Int
 | 0,_,_=>none
 | k+1,Bo,Bn=>xK (jg k) Bo Bn
def wY(Bo Bn:ah):Option Int:=jg BIG Bo Bn
def nu(a1 b1:ah):Option Bool:=
 au (wY a1 b1) fun x1=>
 some (x1==0)
def qy(a1 b1:ah)(Ak:Int):Option Bool:=
 some ((a1.kind==Ak)&&(b1.kind==Ak))
def strings_Contains(s1 t1:Str):Option Bool:=
 if s1.length<4294967281 then some (mE s1 t1).isSome else none
def o_(a1 b1:ah):Nat→Int→Option (fG aG Bool)
 | 0,_=>none
 | dW+1,x2=>
  if decide (x2<(a1.aO.length:Int))then
   au (idx a1.aO x2) fun e1=>
   au (nu e1 b1) fun x3=>
   if x3 then
    some (.ok true)
   else
    o_ a1 b1 dW (bF (x2+1))
  else
   some (.ok false)
def xE(a1 b1:ah):Option (fG aG Bool):=
 au (iU a1 4) fun x1=>
 if x1 then
  o_ a1 b1 BIG 0
 else
  au (qy a1 b1 3) fun x4=>
  if x4 then
   au (strings_Contains a1.bV b1.bV) fun x5=>
   some (.ok x5)
  else
   au (iU a1 5) fun x6=>
   au (
     if x6 then
      iU b1 3
     else
      some false) fun b2=>
   dU (dV b2 9) (fun e2=>some (.bad e2)) fun _=>
   fD (Aw a1 b1.bV) fun x8 ok1=>
   some (.ok ok1)
def fE(b1:Bool):Option ah:=
 some (ah.mk 1 b1 0 ([]:Str) [] [])
def vM(a1 b1:ah):Nat→Int→List Str→Int→Option (fG aG ah)
 | 0,_,_,_=>none
 | dW+1,n1,l1,x3=>
  if decide (x3<(a1.aO.length:Int))then
   au (idx a1.aO x3) fun e2=>
   au (iU e2 3) fun x4=>
   dU (dV x4 9) (fun e3=>some (.bad e3)) fun _=>
   au (app l1 ([e2.bV]:List Str)) fun l2=>
   vM a1 b1 dW (bF (n1+(e2.bV.length:Int))) l2 (bF (x3+1))
  else
   dU (dV (decide ((bF (n1+(bF ((b1.bV.length:Int)*(if 0<(bF ((l1.length:Int)-1))then (bF ((l1.length:Int)-1))else 0)))))≤4096)) 3) (fun e4=>some (.bad e4)) fun _=>
   au (strings_Join l1 b1.bV) fun x5=>
   au (mW x5) fun x6=>
   some (.ok x6)
def Co(a1 b1:ah):Option (fG aG ah):=
 au (iU a1 4) fun x1=>
 au (
   if x1 then
    iU b1 3
   else
    some false) fun b2=>
 dU (dV b2 9) (fun e1=>some (.bad e1)) fun _=>
 vM a1 b1 BIG 0 [] 0
def sj(s1 zx:Str):Option Bool:=
 if decide ((zx.length:Int)≤(s1.length:Int))then
  au (sl s1 (bF ((s1.length:Int)-(zx.length:Int))) (s1.length:Int)) fun x1=>
  some (x1==zx)
 else
  some false
def strings_HasSuffix(s1 zx:Str):Option Bool:=
 sj s1 zx
def strings_Split(s1 t1:Str):Option (List Str):=
 if s1.length<4294967281∧t1≠[]then some (ou t1 (s1.length+1) s1)else none
def Kr(name1:Str)(a1 b1:ah):Option (fG aG ah):=
 if name1==([100,101,102,97,117,108,116]:Str)then
  au (iU a1 0) fun x1=>
  if x1 then
   some (.ok b1)
  else
   some (.ok a1)
 else
  if name1==([99,111,110,116,97,105,110,115]:Str)then
   dU (xE a1 b1) (fun e1=>some (.bad e1)) fun x2=>
   au (fE x2) fun x3=>
   some (.ok x3)
  else
   if name1==([106,111,105,110]:Str)then
    dU (Co a1 b1) (fun e2=>some (.bad e2)) fun x4=>
    some (.ok x4)
   else
    au (qy a1 b1 3) fun x5=>
    dU (dV x5 9) (fun e3=>some (.bad e3)) fun _=>
    if name1==([115,116,97,114,116,115,119,105,116,104]:Str)then
     au (strings_HasPrefix a1.bV b1.bV) fun x6=>
     au (fE x6) fun x7=>
     some (.ok x7)
    else
     if name1==([101,110,100,115,119,105,116,104]:Str)then
      au (strings_HasSuffix a1.bV b1.bV) fun x8=>
      au (fE x8) fun x9=>
      some (.ok x9)
     else
      dU (dV (!(b1.bV==([]:Str))) 1) (fun e4=>some (.bad e4)) fun _=>
      au (strings_Split a1.bV b1.bV) fun l1=>
      dU (dV (decide ((l1.length:Int)≤1024)) 3) (fun e5=>some (.bad e5)) fun _=>
      au (A_ l1) fun Fh=>
      some (.ok Fh)
def vK(v1:ah):Option (fG aG Bool):=
 au (iU v1 1) fun x1=>
 dU (dV x1 9) (fun e1=>some (.bad e1)) fun _=>
 some (.ok v1.dZ)
def EX(op1:Str)(v1:ah):Option (fG aG ah):=
 if op1==([33]:Str)then
  dU (vK v1) (fun e1=>some (.bad e1)) fun x1=>
  au (fE (!x1)) fun x2=>
  some (.ok x2)
 else
  au (iU v1 2) fun x3=>
  dU (dV x3 9) (fun e2=>some (.bad e2)) fun _=>
  au (qO (bF (0-v1.eB))) fun x4=>
  some (.ok x4)
def nV(a1 b1:ah):Option (fG aG Int):=
 au (qy a1 b1 2) fun x1=>
 au (
   if x1 then
    some true
   else
    qy a1 b1 3) fun b2=>
 dU (dV b2 9) (fun e1=>some (.bad e1)) fun _=>
 au (wY a1 b1) fun x3=>
 some (.ok x3)
def sU(n1:Int):Option (fG aG ah):=
 dU (dV ((decide ((-9007199254740992)≤n1))&&(decide (n1≤9007199254740992))) 11) (fun e1=>some (.bad e1)) fun _=>
 au (qO n1) fun x1=>
 some (.ok x1)
def G7(a1 b1:ah):Option (fG aG ah):=
 au (qy a1 b1 2) fun x1=>
 if x1 then
  dU (sU (bF (a1.eB+b1.eB))) (fun e1=>some (.bad e1)) fun x2=>
  some (.ok x2)
 else
  au (qy a1 b1 3) fun x3=>
  if x3 then
   dU (dV (decide ((bF ((a1.bV.length:Int)+(b1.bV.length:Int)))≤4096)) 3) (fun e2=>some (.bad e2)) fun _=>
   au (app a1.bV b1.bV) fun x4=>
   au (mW x4) fun x5=>
   some (.ok x5)
  else
   au (qy a1 b1 4) fun x6=>
   dU (dV x6 9) (fun e3=>some (.bad e3)) fun _=>
   dU (dV (decide ((bF ((a1.aO.length:Int)+(b1.aO.length:Int)))≤1024)) 3) (fun e4=>some (.bad e4)) fun _=>
   au (app [] a1.aO) fun l1=>
   au (app l1 b1.aO) fun x7=>
   au (EY x7) fun x8=>
   some (.ok x8)
def J5(n1:Int):Option (BitVec 64):=
 if decide (n1<0)then
  some (-(BitVec.ofInt 64 n1))
 else
  some (BitVec.ofInt 64 n1)
def Dv(a1 b1:Int):Option fF:=
 au (J5 a1) fun x1=>
 au (J5 b1) fun y1=>
 au (some ((x1 &&& (4294967295:BitVec 64))*(y1 &&& (4294967295:BitVec 64)))) fun TY=>
 au (some ((x1 >>> 32)*(y1 &&& (4294967295:BitVec 64)))) fun x2=>
 au (some ((x1 &&& (4294967295:BitVec 64))*(y1 >>> 32))) fun x3=>
 au (some ((x2+(TY >>> 32)) &&& (4294967295:BitVec 64))) fun x4=>
 au (some (((x1 >>> 32)*(y1 >>> 32))+((x2+(TY >>> 32)) >>> 32))) fun x5=>
 au (some (((x3+x4) <<< 32) ||| (TY &&& (4294967295:BitVec 64)))) fun x6=>
 some (fF.mk ([(x5+((x3+x4) >>> 32)),x6]:List (BitVec 64)) ((!((decide (a1<0))==(decide (b1<0))))&&(!decide (([((x5+((x3+x4) >>> 32)).toNat:Int),(x6.toNat:Int)]:List Int)=([0,0]:List Int)))))
def tH(p1:fF):Option (Int × Bool):=
 if ((p1.half.getD 0 0).toNat:Int) !=0 then
  some (0,false)
 else
  if p1.neg&&(decide (((p1.half.getD 1 0).toNat:Int)≤9223372036854775808))then
   some ((bF ((-(p1.half.getD 1 0)).toNat:Int)),true)
  else
   if (!p1.neg)&&(decide (((p1.half.getD 1 0).toNat:Int)≤9223372036854775807))then
    some ((bF ((p1.half.getD 1 0).toNat:Int)),true)
   else
    some (0,false)
def Yv(aly:Bool):Option Int:=
 if aly then
  some (-9223372036854775808)
 else
  some 9223372036854775807
def Ob(a1 b1:Int):Option Int:=
 au (Dv a1 b1) fun x1=>
 fD (tH x1) fun n1 ok1=>
 if ok1 then
  some n1
 else
  Yv x1.neg
def qz(op1:Str)(a1 b1:ah):Option (fG aG ah):=
 au (qy a1 b1 2) fun x1=>
 dU (dV x1 9) (fun e1=>some (.bad e1)) fun _=>
 if op1==([45]:Str)then
  dU (sU (bF (a1.eB-b1.eB))) (fun e2=>some (.bad e2)) fun x2=>
  some (.ok x2)
 else
  if op1==([42]:Str)then
   au (Ob a1.eB b1.eB) fun x3=>
   dU (sU x3) (fun e3=>some (.bad e3)) fun x4=>
   some (.ok x4)
  else
   dU (dV (b1.eB !=0) 12) (fun e4=>some (.bad e4)) fun _=>
   if op1==([47]:Str)then
    au (Zg (!(b1.eB==0))) fun _=>
    dU (sU (bF ((a1.eB:Int).tdiv b1.eB))) (fun e5=>some (.bad e5)) fun x5=>
    some (.ok x5)
   else
    au (Zg (!(b1.eB==0))) fun _=>
    au (qO ((a1.eB:Int).tmod b1.eB)) fun x6=>
    some (.ok x6)
def tY(bM:Int)(x1:ah):Int:=if (x1.kind==4||x1.kind==5)&&((x1.aO.length:Int)==0)then bF (bM+1)else bM
def iw(amP bM:Int)(x1:ah):Option (Bool × Int):=
 some (true,if amP<tY bM x1 then tY bM x1 else amP)
def zu(v1:ah):Option Int:=
 fD (Et iw 0 v1 1) fun _ s1=>
 some s1
def lG(y1 c1:aF):Option Bool:=
 some (y1.name==c1.name)
def gq(s1:List aF)(f1:aF→Option Bool):Nat→Int→Option Int
 | 0,_=>none
 | dW+1,i1=>
  if decide (i1<(s1.length:Int))then
   au (idx s1 i1) fun e1=>
   au (f1 e1) fun x1=>
   if x1 then
    some i1
   else
    gq s1 f1 dW (bF (i1+1))
  else
   some (-1)
def iY(s1:List aF)(f1:aF→Option Bool):Option Int:=
 gq s1 f1 BIG 0
def fB(s1:List aF)(f1:aF→Option Bool):Option Bool:=
 au (iY s1 f1) fun x1=>
 some (decide (0≤x1))
def BM(gZ:List aF)(i1:Int):Option Int:=
 au (idx gZ i1) fun e1=>
 if (decide ((e1.name.length:Int)<1))||(decide (64<(e1.name.length:Int)))then
  some 1
 else
  au (kD e1.value) fun e2=>
  if e2 !=0 then
   some e2
  else
   au (zu e1.value) fun x1=>
   if decide (16≤x1)then
    some 13
   else
    au (sl gZ 0 i1) fun x2=>
    au (fB x2 (fun z0=>lG z0 e1)) fun x3=>
    if x3 then
     some 7
    else
     some 0
def fK(s1:List aF):Option (List aF):=
 app [] s1
def Jz(a1 b1:aF):Option Int:=
 iR a1.name b1.name
def wh(uG:List aF):Nat→Int→ah→Option (ah × Int)
 | 0,_,_=>none
 | kk2+1,x1,bP=>
  if decide (x1<(uG.length:Int))then
   au (idx uG x1) fun e2=>
   au (app bP.keys ([e2.name]:List Str)) fun x2=>
   au (nk e2.value) fun x3=>
   au (app bP.aO [x3]) fun x4=>
   wh uG kk2 (bF (x1+1)) (ah.mk bP.kind bP.dZ bP.eB bP.bV x4 x2)
  else
   some (bP,0)
def wm(gZ:List aF):Nat→Int→Option (ah × Int)
 | 0,_=>none
 | dW+1,i1=>
  if decide (i1<(gZ.length:Int))then
   au (BM gZ i1) fun e1=>
   if e1 !=0 then
    some ((ah.mk 0 false 0 ([]:Str) [] []),e1)
   else
    wm gZ dW (bF (i1+1))
  else
   au (fK gZ) fun RU=>
   au (WM (fun x=>x.name) RU) fun uG=>
   wh uG BIG 0 (ah.mk 5 false 0 ([]:Str) [] [])
def D_(gZ:List aF):Option (ah × Int):=
 if decide (1024<(gZ.length:Int))then
  some ((ah.mk 0 false 0 ([]:Str) [] []),3)
 else
  wm gZ BIG 0
def uL(bf b_:List aF→ak→Option (fG aG ah))(bY:List aF→List ak→Option (fG aG (List ah)))(bT bO:List aF→ak→Option (fG aG ah))(s1:List aF)(e1:ak):Option (fG aG ah):=
 if e1.kind==1 then
  some (.ok e1.value)
 else
  if e1.kind==2 then
   dU (um s1 e1.name) (fun e2=>some (.bad e2)) fun x1=>
   some (.ok x1)
  else
   if e1.kind==3 then
    au (idx e1.args 0) fun e3=>
    dU (bf s1 e3) (fun e4=>some (.bad e4)) fun x2=>
    au (mW e1.name) fun x3=>
    dU (yF x2 x3) (fun e5=>some (.bad e5)) fun x4=>
    some (.ok x4)
   else
    if e1.kind==4 then
     au (idx e1.args 0) fun e6=>
     dU (bf s1 e6) (fun e7=>some (.bad e7)) fun x5=>
     au (idx e1.args 1) fun e8=>
     dU (bf s1 e8) (fun e9=>some (.bad e9)) fun x6=>
     dU (wI x5 x6) (fun e10=>some (.bad e10)) fun x7=>
     some (.ok x7)
    else
     if e1.kind==5 then
      dU (b_ s1 e1) (fun e11=>some (.bad e11)) fun x8=>
      some (.ok x8)
     else
      if e1.kind==6 then
       au (idx e1.args 0) fun e12=>
       dU (bf s1 e12) (fun e13=>some (.bad e13)) fun x9=>
       dU (EX e1.name x9) (fun e14=>some (.bad e14)) fun Fh=>
       some (.ok Fh)
      else
       if e1.kind==7 then
        dU (bT s1 e1) (fun e15=>some (.bad e15)) fun Jj=>
        some (.ok Jj)
       else
        if e1.kind==8 then
         au (idx e1.args 0) fun e16=>
         dU (bf s1 e16) (fun e17=>some (.bad e17)) fun LA=>
         dU (vK LA) (fun e18=>some (.bad e18)) fun Ml=>
         if Ml then
          au (idx e1.args 1) fun e19=>
          dU (bf s1 e19) (fun e20=>some (.bad e20)) fun Vu=>
          some (.ok Vu)
         else
          au (idx e1.args 2) fun e21=>
          dU (bf s1 e21) (fun e22=>some (.bad e22)) fun Ro=>
          some (.ok Ro)
        else
         if e1.kind==9 then
          dU (bY s1 e1.args) (fun e23=>some (.bad e23)) fun Lx=>
          au (EY Lx) fun Wo=>
          au (kD Wo) fun x18=>
          dU (dV (x18==0) 13) (fun e24=>some (.bad e24)) fun _=>
          some (.ok Wo)
         else
          dU (bO s1 e1) (fun e25=>some (.bad e25)) fun x19=>
          some (.ok x19)
def qN(bf b_:List aF→ak→Option (fG aG ah))(bY:List aF→List ak→Option (fG aG (List ah)))(bT bO:List aF→ak→Option (fG aG ah))(s1:List aF)(e1:ak):Option (fG aG ah):=
 au (yG e1.name) fun n1=>
 dU (dV (decide (0<n1)) 10) (fun e2=>some (.bad e2)) fun _=>
 dU (dV ((e1.args.length:Int)==n1) 1) (fun e3=>some (.bad e3)) fun _=>
 dU (bY s1 e1.args) (fun e4=>some (.bad e4)) fun args1=>
 if n1==1 then
  au (idx args1 0) fun e5=>
  dU (Kt e1.name e5) (fun e6=>some (.bad e6)) fun x1=>
  some (.ok x1)
 else
  au (idx args1 0) fun e7=>
  au (idx args1 1) fun e8=>
  dU (Kr e1.name e7 e8) (fun e9=>some (.bad e9)) fun x2=>
  some (.ok x2)
def nK(bf:List aF→ak→Option (fG aG ah))(s1:List aF)(l1:List ak):Nat→List ah→Int→Option (fG aG (List ah))
 | 0,_,_=>none
 | dW+1,bP,x1=>
  if decide (x1<(l1.length:Int))then
   au (idx l1 x1) fun e1=>
   dU (bf s1 e1) (fun e2=>some (.bad e2)) fun x2=>
   au (app bP [x2]) fun xk=>
   nK bf s1 l1 dW xk (bF (x1+1))
  else
   some (.ok bP)
def Ba(bf b_:List aF→ak→Option (fG aG ah))(bY:List aF→List ak→Option (fG aG (List ah)))(bT bO:List aF→ak→Option (fG aG ah))(s1:List aF)(l1:List ak):Option (fG aG (List ah)):=
 nK bf s1 l1 BIG [] 0
def om(bf b_:List aF→ak→Option (fG aG ah))(bY:List aF→List ak→Option (fG aG (List ah)))(bT bO:List aF→ak→Option (fG aG ah))(s1:List aF)(e1:ak):Option (fG aG ah):=
 au (idx e1.args 0) fun e2=>
 dU (bf s1 e2) (fun e3=>some (.bad e3)) fun x1=>
 if (e1.name==([38,38]:Str))||(e1.name==([124,124]:Str))then
  dU (vK x1) (fun e4=>some (.bad e4)) fun x2=>
  if x2==(e1.name==([124,124]:Str))then
   some (.ok x1)
  else
   au (idx e1.args 1) fun e5=>
   dU (bf s1 e5) (fun e6=>some (.bad e6)) fun x3=>
   dU (vK x3) (fun e7=>some (.bad e7)) fun x4=>
   au (fE x4) fun x5=>
   some (.ok x5)
 else
  au (idx e1.args 1) fun e8=>
  dU (bf s1 e8) (fun e9=>some (.bad e9)) fun x6=>
  if e1.name==([61,61]:Str)then
   au (nu x1 x6) fun x7=>
   au (fE x7) fun x8=>
   some (.ok x8)
  else
   if e1.name==([33,61]:Str)then
    au (nu x1 x6) fun x9=>
    au (fE (!x9)) fun Fh=>
    some (.ok Fh)
   else
    if e1.name==([60]:Str)then
     dU (nV x1 x6) (fun e10=>some (.bad e10)) fun Jj=>
     au (fE (decide (Jj<0))) fun LA=>
     some (.ok LA)
    else
     if e1.name==([60,61]:Str)then
      dU (nV x1 x6) (fun e11=>some (.bad e11)) fun Ml=>
      au (fE (decide (Ml≤0))) fun Vu=>
      some (.ok Vu)
     else
      if e1.name==([62]:Str)then
       dU (nV x1 x6) (fun e12=>some (.bad e12)) fun Ro=>
       au (fE (decide (0<Ro))) fun Lx=>
       some (.ok Lx)
      else
       if e1.name==([62,61]:Str)then
        dU (nV x1 x6) (fun e13=>some (.bad e13)) fun Wo=>
        au (fE (decide (0≤Wo))) fun x18=>
        some (.ok x18)
       else
        if e1.name==([43]:Str)then
         dU (G7 x1 x6) (fun e14=>some (.bad e14)) fun x19=>
         some (.ok x19)
        else
         dU (qz e1.name x1 x6) (fun e15=>some (.bad e15)) fun x20=>
         some (.ok x20)
def mO(e1:ak)(x1:List ah):Nat→List aF→Int→Option (fG aG ah)
 | 0,_,_=>none
 | dW+1,gZ,i1=>
  if decide (i1<(x1.length:Int))then
   au (idx x1 i1) fun e3=>
   au (idx e1.keys i1) fun e4=>
   au (app gZ [(aF.mk e4 e3)]) fun Sz=>
   mO e1 x1 dW Sz (bF (i1+1))
  else
   fD (D_ gZ) fun x2 nL=>
   dU (dV (nL==0) nL) (fun e5=>some (.bad e5)) fun _=>
   some (.ok x2)
def nC(bf b_:List aF→ak→Option (fG aG ah))(bY:List aF→List ak→Option (fG aG (List ah)))(bT bO:List aF→ak→Option (fG aG ah))(s1:List aF)(e1:ak):Option (fG aG ah):=
 dU (bY s1 e1.args) (fun e2=>some (.bad e2)) fun x1=>
 mO e1 x1 BIG [] 0
mutual
def cZ:Nat→List aF→ak→Option (fG aG ah)
 | 0,_,_=>none
 | k+1,sN,jo=>uL (cZ k) (eG k) (fq k) (dS k) (dG k) sN jo
def eG:Nat→List aF→ak→Option (fG aG ah)
 | 0,_,_=>none
 | k+1,sN,jo=>qN (cZ k) (eG k) (fq k) (dS k) (dG k) sN jo
def fq:Nat→List aF→List ak→Option (fG aG (List ah))
 | 0,_,_=>none
 | k+1,sN,Rs=>Ba (cZ k) (eG k) (fq k) (dS k) (dG k) sN Rs
def dS:Nat→List aF→ak→Option (fG aG ah)
 | 0,_,_=>none
 | k+1,sN,jo=>om (cZ k) (eG k) (fq k) (dS k) (dG k) sN jo
def dG:Nat→List aF→ak→Option (fG aG ah)
 | 0,_,_=>none
 | k+1,sN,jo=>nC (cZ k) (eG k) (fq k) (dS k) (dG k) sN jo
end
def CU(sN:List aF)(jo:ak):Option (fG aG ah):=cZ BIG sN jo
def RA(sN:List aF)(jo:ak):Option (fG aG ah):=eG BIG sN jo
def Ut(sN:List aF)(Rs:List ak):Option (fG aG (List ah)):=fq BIG sN Rs
def OI(sN:List aF)(jo:ak):Option (fG aG ah):=dS BIG sN jo
def M4(sN:List aF)(jo:ak):Option (fG aG ah):=dG BIG sN jo
def zZ(s1:List aF)(e1:ak):Option (ah × Int):=
 dU (CU s1 e1) (fun f1=>some ((ah.mk 0 false 0 ([]:Str) [] []),f1.code)) fun v1=>
 some (v1,0)
def xF(m_:ah→Option ah)(v1:ah):Nat→Int→ah→Option ah
 | 0,_,_=>none
 | dW+1,x1,bP=>
  if decide (x1<(v1.aO.length:Int))then
   au (idx v1.aO x1) fun e1=>
   au (m_ e1) fun x2=>
   au (app bP.aO [x2]) fun x3=>
   xF m_ v1 dW (bF (x1+1)) (ah.mk bP.kind bP.dZ bP.eB bP.bV x3 bP.keys)
  else
   au (app bP.keys v1.keys) fun x4=>
   some (ah.mk bP.kind bP.dZ bP.eB bP.bV bP.aO x4)
def DK(m_:ah→Option ah)(v1:ah):Option ah:=
 xF m_ v1 BIG 0 (ah.mk v1.kind v1.dZ v1.eB v1.bV [] [])
def qP:Nat→ah→Option ah
 | 0,_=>none
 | k+1,nS=>DK (qP k) nS
def yH(nS:ah):Option ah:=qP BIG nS
def G8(e1:ak)(dJ:List aF):Option (ah × Int):=
 fD (FV e1 dJ) fun s1 f1=>
 if f1 !=0 then
  some ((ah.mk 0 false 0 ([]:Str) [] []),f1)
 else
  fD (zZ s1 e1) fun x1 f2=>
  au (yH x1) fun x2=>
  some (x2,f2)
def uh(p1:aS)(dJ:List aF):Option (Str × Int):=
 if !p1.VG then
  some (p1.text,0)
 else
  fD (G8 p1.expr dJ) fun x1 nL=>
  if nL !=0 then
   some (([]:Str),nL)
  else
   Av x1
def o9(dJ:List aF)(ps1:List aS):Nat→Int→Str→Option (Str × Int)
 | 0,_,_=>none
 | dW+1,x2,b1=>
  if decide (x2<(ps1.length:Int))then
   au (idx ps1 x2) fun e1=>
   fD (uh e1 dJ) fun t1 aez=>
   if aez !=0 then
    some (([]:Str),aez)
   else
    au (app b1 t1) fun b2=>
    o9 dJ ps1 dW (bF (x2+1)) b2
  else
   if decide (4096<(b1.length:Int))then
    some (([]:Str),3)
   else
    some (b1,0)
def uw(s1:Str)(dJ:List aF):Option (Str × Int):=
 mq (oF s1) fun ps1 x1 nL=>
 if nL !=0 then
  some (([]:Str),nL)
 else
  au (G9 dJ) fun Hf=>
  if Hf !=0 then
   some (([]:Str),Hf)
  else
   o9 dJ ps1 BIG 0 []
def jD{β:Type}(y:β→ak→Option (Bool × β))(ps1:List aS):Nat→β→Int→Option β
 | 0,_,_=>none
 | dW+1,s1,i1=>
  if decide (i1<(ps1.length:Int))then
   au (idx ps1 i1) fun p1=>
   if p1.VG then
    fD (y s1 p1.expr) fun b1 s2=>
    if !b1 then
     some s2
    else
     jD y ps1 dW s2 (bF (i1+1))
   else
    jD y ps1 dW s1 (bF (i1+1))
  else
   some s1
def pR{β:Type}(y:β→ak→Option (Bool × β))(s1:β)(ps1:List aS):Option β:=jD y ps1 BIG s1 0
def Iz(J8:List Str):Option (List Str):=
 if (J8.all fun s=>decide (s.length<4611686018427387904))&&decide (J8.length≤wX)then some (aio J8)else none
def pq(go:ak→List Str→Option (List Str))(e1:ak):Nat→List Str→Int→Option (List Str)
 | 0,_,_=>none
 | dW+1,bP,i1=>
  if decide (i1<(e1.args.length:Int))then
   au (idx e1.args i1) fun a1=>
   au (go a1 bP) fun xk=>
   pq go e1 dW xk (bF (i1+1))
  else
   some bP
def CX(go:ak→List Str→Option (List Str))(e1:ak)(bP:List Str):Option (List Str):=
 if e1.kind==2 then
  au (app bP [e1.name]) fun xk=>
  pq go e1 BIG xk 0
 else
  pq go e1 BIG bP 0
def xV:Nat→ak→List Str→Option (List Str)
 | 0,_,_=>none
 | k+1,e1,bP=>CX (xV k) e1 bP
def KG(e1:ak):Option (List Str):=
 au (xV BIG e1 []) fun bP=>
 Iz bP
def zT(a1:List ak)(x1:ak):Option (Bool × List ak):=
 au (app a1 [x1]) fun a2=>
 some (true,a2)
def Iy(s1:Str):Option (List Str × Int):=
 mq (oF s1) fun ps1 _ nL=>
 if nL !=0 then
  some ([],nL)
 else
  au (pR zT [] ps1) fun a1=>
  au (KG (ak.mk 9 ([]:Str) (ah.mk 0 false 0 ([]:Str) [] []) a1 [])) fun x1=>
  some (x1,0)
def Mt(v1:ah):Option Str:=
 au (kD v1) fun x1=>
 if x1 !=0 then
  some ([]:Str)
 else
  Bj v1
def Ij(e1:ak):Option Int:=
 if e1.kind==8 then
  some 1
 else
  if e1.kind==7 then
   gT e1.name
  else
   if e1.kind==6 then
    some 7
   else
    if ((e1.kind==1)&&(e1.value.kind==2))&&(decide (e1.value.eB<0))then
     some 7
    else
     some 8
def CQ(mV:ak→Option Str)(gY:ak→Int→Option Str)(e1:ak):Option Str:=
 if e1.kind==1 then
  Mt e1.value
 else
  if e1.kind==2 then
   some e1.name
  else
   if e1.kind==3 then
    au (idx e1.args 0) fun e2=>
    au (gY e2 8) fun x2=>
    au (app x2 ([46]:Str)) fun x3=>
    app x3 e1.name
   else
    if e1.kind==4 then
     au (idx e1.args 0) fun e3=>
     au (gY e3 8) fun x5=>
     au (app x5 ([91]:Str)) fun x6=>
     au (idx e1.args 1) fun e4=>
     au (gY e4 1) fun x7=>
     au (app x6 x7) fun x8=>
     app x8 ([93]:Str)
    else
     if e1.kind==5 then
      none
     else
      if e1.kind==6 then
       au (idx e1.args 0) fun e5=>
       au (gY e5 7) fun Fh=>
       app e1.name Fh
      else
       if e1.kind==7 then
        au (gT e1.name) fun n1=>
        if n1==4 then
         au (idx e1.args 0) fun e6=>
         au (gY e6 (bF (n1+1))) fun LA=>
         au (app LA ([32]:Str)) fun Ml=>
         au (app Ml e1.name) fun Vu=>
         au (app Vu ([32]:Str)) fun Ro=>
         au (idx e1.args 1) fun e7=>
         au (gY e7 (bF (n1+1))) fun Lx=>
         app Ro Lx
        else
         au (idx e1.args 0) fun e8=>
         au (gY e8 n1) fun x18=>
         au (app x18 ([32]:Str)) fun x19=>
         au (app x19 e1.name) fun x20=>
         au (app x20 ([32]:Str)) fun x21=>
         au (idx e1.args 1) fun e9=>
         au (gY e9 (bF (n1+1))) fun x22=>
         app x21 x22
       else
        if e1.kind==8 then
         au (idx e1.args 0) fun e10=>
         au (gY e10 2) fun x24=>
         au (app x24 ([32,63,32]:Str)) fun x25=>
         au (idx e1.args 1) fun e11=>
         au (gY e11 1) fun x26=>
         au (app x25 x26) fun x27=>
         au (app x27 ([32,58,32]:Str)) fun x28=>
         au (idx e1.args 2) fun e12=>
         au (gY e12 1) fun x29=>
         app x28 x29
        else
         if e1.kind==9 then
          none
         else
          none
def Ik(mV:ak→Option Str)(gY:ak→Int→Option Str)(e1:ak)(K3:Int):Option Str:=
 au (Ij e1) fun x1=>
 if decide (x1<K3)then
  au (mV e1) fun x2=>
  au (app ([40]:Str) x2) fun x3=>
  app x3 ([41]:Str)
 else
  mV e1
mutual
def xM:Nat→ak→Option Str
 | 0,_=>none
 | k+1,jo=>CQ (xM k) (Dt k) jo
def Dt:Nat→ak→Int→Option Str
 | 0,_,_=>none
 | k+1,jo,kW=>Ik (xM k) (Dt k) jo kW
end
def LY(jo:ak):Option Str:=xM BIG jo
def ace(jo:ak)(kW:Int):Option Str:=Dt BIG jo kW
def J3(e1:ak):Option Str:=
 au (je e1) fun x1=>
 if x1 !=0 then
  some ([]:Str)
 else
  LY e1
def strings_ReplaceAll(s1 alv new1:Str):Option Str:=
 if s1.length<4294967281∧alv=[36]∧new1=[36,36]then some (s1.flatMap fun x=>if x==36 then [36,36]else [x])else none
def vG(ps1:List aS):Nat→Int→Str→Option Str
 | 0,_,_=>none
 | dW+1,x1,b1=>
  if decide (x1<(ps1.length:Int))then
   au (idx ps1 x1) fun e1=>
   if e1.VG then
    au (J3 e1.expr) fun x2=>
    au (app ([36,123]:Str) x2) fun x3=>
    au (app x3 ([125]:Str)) fun x4=>
    au (app b1 x4) fun b2=>
    vG ps1 dW (bF (x1+1)) b2
   else
    au (strings_ReplaceAll e1.text ([36]:Str) ([36,36]:Str)) fun x5=>
    au (app b1 x5) fun b3=>
    vG ps1 dW (bF (x1+1)) b3
  else
   some b1
def Ki(ps1:List aS):Option Str:=
 vG ps1 BIG 0 []
def yN(eP:Int):Option Str:=
 if (decide (eP<0))||(decide (8≤eP))then
  some ([]:Str)
 else
  idx ([([97,110,121]:Str),([110,117,108,108]:Str),([98,111,111,108]:Str),([105,110,116]:Str),([115,116,114,105,110,103]:Str),([108,105,115,116]:Str),([109,97,112]:Str),([110,101,118,101,114]:Str)]:List Str) eP
def iQ(eP:Int):Option Bool:=
 some ((eP==5)||(eP==6))
def kP:Nat→Int→ay→Option Int
 | 0,_,_=>none
 | dW+1,bM,t2=>
  if decide (16<bM)then
   some 13
  else
   au (yN t2.kind) fun x1=>
   au (
     if x1==([]:Str)then
      some true
     else
      au (iQ t2.kind) fun x2=>
      some (x2&&((t2.elem.length:Int) !=1))) fun b1=>
   au (
     if b1 then
      some true
     else
      au (iQ t2.kind) fun x3=>
      some ((!x3)&&((t2.elem.length:Int) !=0))) fun b2=>
   if b2 then
    some 1
   else
    au (iQ t2.kind) fun x4=>
    if !x4 then
     some 0
    else
     au (idx t2.elem 0) fun e1=>
     kP dW (bF (bM+1)) e1
def jX(t1:ay):Option Int:=
 kP BIG 1 t1
def Ae(dJ:List aT):Nat→Int→List (Str × Int)→Option Int
 | 0,_,_=>none
 | dW+1,x1,y1=>
  if decide (x1<(dJ.length:Int))then
   au (idx dJ x1) fun e1=>
   au (je (ak.mk 2 e1.name (ah.mk 0 false 0 ([]:Str) [] []) [] [])) fun x2=>
   if x2 !=0 then
    some 1
   else
    au (jX e1.oM) fun e2=>
    if e2 !=0 then
     some e2
    else
     if decide (1<(nX (sJ y1 e1.name (bF ((nX y1 e1.name)+1))) e1.name))then
      some 7
     else
      Ae dJ dW (bF (x1+1)) (sJ y1 e1.name (bF ((nX y1 e1.name)+1)))
  else
   some 0
def Ei(dJ:List aT):Option Int:=
 if decide (1024<(dJ.length:Int))then
  some 3
 else
  Ae dJ BIG 0 []
def eT(eP:Int):Option ay:=
 some (ay.mk eP [])
def lU(eP:Int)(mo:ay):Option ay:=
 some (ay.mk eP [mo])
def jr(name1:Str):Option (List (List ay) × ay):=
 au (eT 0) fun x1=>
 au (eT 3) fun x2=>
 au (eT 4) fun x3=>
 au (eT 2) fun x4=>
 au (lU 5 x1) fun x5=>
 au (lU 6 x1) fun x6=>
 au (lU 5 x3) fun x7=>
 if name1==([108,101,110]:Str)then
  some ([[x3],[x5],[x6]],x2)
 else
  if name1==([99,111,110,116,97,105,110,115]:Str)then
   some ([[x5,x1],[x3,x3],[x6,x3]],x4)
  else
   if name1==([106,111,105,110]:Str)then
    some ([[x7,x3]],x3)
   else
    if name1==([115,116,114,105,110,103]:Str)then
     au (eT 1) fun x8=>
     some ([[x8],[x4],[x2],[x3]],x3)
    else
     if name1==([108,111,119,101,114]:Str)then
      some ([[x3]],x3)
     else
      if name1==([117,112,112,101,114]:Str)then
       some ([[x3]],x3)
      else
       if name1==([115,112,108,105,116]:Str)then
        some ([[x3,x3]],x7)
       else
        if name1==([115,116,97,114,116,115,119,105,116,104]:Str)then
         some ([[x3,x3]],x4)
        else
         if name1==([101,110,100,115,119,105,116,104]:Str)then
          some ([[x3,x3]],x4)
         else
          if name1==([105,110,116]:Str)then
           some ([[x3]],x2)
          else
           if name1==([100,101,102,97,117,108,116]:Str)then
            some ([[x1,x1]],x1)
           else
            if name1==([107,101,121,115]:Str)then
             some ([[x6]],x7)
            else
             some ([],x1)
def fC(t1:ay):Option Bool:=
 some ((t1.kind==0)||(t1.kind==7))
def kX(rG:ay→ay→Option Bool)(t1 u1:ay):Option Bool:=
 au (fC t1) fun x1=>
 if x1||(u1.kind==0)then
  some true
 else
  if t1.kind !=u1.kind then
   some false
  else
   if ((t1.elem.length:Int)==1)&&((u1.elem.length:Int)==1)then
    au (idx t1.elem 0) fun e1=>
    au (idx u1.elem 0) fun e2=>
    rG e1 e2
   else
    some true
def jU:Nat→ay→ay→Option Bool
 | 0,_,_=>none
 | k+1,Gd,X3=>kX (jU k) Gd X3
def iM(Gd X3:ay):Option Bool:=jU BIG Gd X3
def sH(iX C9:List ay):Nat→Int→Option Bool
 | 0,_=>none
 | dW+1,i1=>
  if decide (i1<(C9.length:Int))then
   au (idx iX i1) fun e1=>
   au (idx C9 i1) fun e2=>
   au (iM e1 e2) fun x1=>
   if !x1 then
    some false
   else
    sH iX C9 dW (bF (i1+1))
  else
   some true
def qQ(iX C9:List ay):Option Bool:=
 sH iX C9 BIG 0
def fV(eP:Int):Option ay:=
 some (ay.mk eP [])
def oW(eP:Int)(mo:ay):Option ay:=
 some (ay.mk eP [mo])
def uW(xR:ay→Option ay)(t1:ay):Option ay:=
 au (iQ t1.kind) fun x1=>
 if !x1 then
  fV t1.kind
 else
  au (idx t1.elem 0) fun e1=>
  au (xR e1) fun x3=>
  oW t1.kind x3
def rP:Nat→ay→Option ay
 | 0,_=>none
 | k+1,Gd=>uW (rP k) Gd
def Dg(Gd:ay):Option ay:=rP BIG Gd
def qZ(zV:ay→ay→Option ay)(a1 b1:ay):Option ay:=
 if a1.kind==7 then
  Dg b1
 else
  if b1.kind==7 then
   Dg a1
  else
   if a1.kind !=b1.kind then
    fV 0
   else
    au (iQ a1.kind) fun x4=>
    if x4 then
     au (idx a1.elem 0) fun e1=>
     au (idx b1.elem 0) fun e2=>
     au (zV e1 e2) fun x5=>
     oW a1.kind x5
    else
     fV a1.kind
def oL:Nat→ay→ay→Option ay
 | 0,_,_=>none
 | k+1,Bo,Bn=>qZ (oL k) Bo Bn
def BP(Bo Bn:ay):Option ay:=oL BIG Bo Bn
def uV(lS:ah→Option ay)(v1:ah):Nat→Int→ay→Option ay
 | 0,_,_=>none
 | dW+1,x6,mo=>
  if decide (x6<(v1.aO.length:Int))then
   au (idx v1.aO x6) fun e1=>
   au (lS e1) fun x7=>
   au (BP mo x7) fun x8=>
   uV lS v1 dW (bF (x6+1)) x8
  else
   if v1.kind==4 then
    oW 5 mo
   else
    oW 6 mo
def Bp(lS:ah→Option ay)(v1:ah):Option ay:=
 if v1.kind==0 then
  fV 1
 else
  if v1.kind==1 then
   fV 2
  else
   if v1.kind==2 then
    fV 3
   else
    if v1.kind==3 then
     fV 4
    else
     au (fV 7) fun x5=>
     uV lS v1 BIG 0 x5
def ru:Nat→ah→Option ay
 | 0,_=>none
 | k+1,nS=>Bp (ru k) nS
def JD(nS:ah):Option ay:=ru BIG nS
def Gs(v1:ah):Option ay:=
 au (kD v1) fun x1=>
 if x1 !=0 then
  fV 0
 else
  JD v1
def qU(dJ:List aT)(name1:Str):Nat→Int→Option (ay × Int)
 | 0,_=>none
 | dW+1,x1=>
  if decide (x1<(dJ.length:Int))then
   au (idx dJ x1) fun e1=>
   if e1.name==name1 then
    some (e1.oM,0)
   else
    qU dJ name1 dW (bF (x1+1))
  else
   some ((ay.mk 0 []),10)
def vO(dJ:List aT)(name1:Str):Option (ay × Int):=
 qU dJ name1 BIG 0
def Ac(t1:ay):Option (ay × Int):=
 au (fC t1) fun x1=>
 if x1 then
  some (t1,0)
 else
  if t1.kind==6 then
   au (idx t1.elem 0) fun e1=>
   some (e1,0)
  else
   some ((ay.mk 0 []),9)
def Cx(t1 i1:ay):Option (ay × Int):=
 au (eT 3) fun x1=>
 au (iM i1 x1) fun ad6=>
 au (eT 4) fun x2=>
 au (iM i1 x2) fun text1=>
 if (t1.kind==5)&&ad6 then
  au (idx t1.elem 0) fun e1=>
  some (e1,0)
 else
  if (t1.kind==6)&&text1 then
   au (idx t1.elem 0) fun e2=>
   some (e2,0)
  else
   au (fC t1) fun x3=>
   if x3&&(ad6||text1)then
    some (t1,0)
   else
    some ((ay.mk 0 []),9)
def Cw(op1:Str)(t1:ay):Option (ay × Int):=
 au (eT 3) fun x1=>
 if op1==([33]:Str)then
  au (eT 2) fun x2=>
  au (iM t1 x2) fun x3=>
  if !x3 then
   some ((ay.mk 0 []),9)
  else
   some (x2,0)
 else
  au (iM t1 x1) fun x4=>
  if !x4 then
   some ((ay.mk 0 []),9)
  else
   some (x1,0)
def jk(eP:Int)(c1 c2:ay):Option Bool:=
 au (eT eP) fun x1=>
 au (iM c1 x1) fun x2=>
 if x2 then
  au (eT eP) fun x3=>
  iM c2 x3
 else
  some false
def iC(a1 b1:ay)(eP:Int):Option Bool:=
 au (fC a1) fun x1=>
 au (
   if x1||(a1.kind==eP)then
    au (fC b1) fun x2=>
    some (x2||(b1.kind==eP))
   else
    some false) fun b2=>
 some (b2&&((a1.kind==eP)||(b1.kind==eP)))
def uy(t1:ay):Option ay:=
 au (fC t1) fun x1=>
 if x1 then
  some t1
 else
  idx t1.elem 0
def Fx(a1 b1:ay):Option Bool:=
 au (jX a1) fun x1=>
 if x1==0 then
  au (jX b1) fun x2=>
  some (x2==0)
 else
  some false
def l7(a1 b1:ay):Option ay:=
 au (Fx a1 b1) fun x1=>
 if !x1 then
  fV 0
 else
  BP a1 b1
def Ho(a1 b1:ay):Option (ay × Int):=
 au (fC a1) fun x1=>
 au (
   if x1 then
    fC b1
   else
    some false) fun b2=>
 if b2 then
  if (a1.kind==0)||(b1.kind==0)then
   au (eT 0) fun x3=>
   some (x3,0)
  else
   au (eT 7) fun x4=>
   some (x4,0)
 else
  au (iC a1 b1 3) fun x5=>
  if x5 then
   au (eT 3) fun x6=>
   some (x6,0)
  else
   au (iC a1 b1 4) fun x7=>
   if x7 then
    au (eT 4) fun x8=>
    some (x8,0)
   else
    au (iC a1 b1 5) fun x9=>
    if x9 then
     au (uy a1) fun Fh=>
     au (uy b1) fun Jj=>
     au (l7 Fh Jj) fun LA=>
     au (lU 5 LA) fun Ml=>
     some (Ml,0)
    else
     some ((ay.mk 0 []),9)
def DU(op1:Str)(a1 b1:ay):Option (ay × Int):=
 if op1==([38,38]:Str)then
  au (jk 2 a1 b1) fun x1=>
  if x1 then
   au (eT 2) fun x2=>
   some (x2,0)
  else
   some ((ay.mk 0 []),9)
 else
  if op1==([124,124]:Str)then
   au (jk 2 a1 b1) fun x3=>
   if x3 then
    au (eT 2) fun x4=>
    some (x4,0)
   else
    some ((ay.mk 0 []),9)
  else
   if op1==([61,61]:Str)then
    au (eT 2) fun x5=>
    some (x5,0)
   else
    if op1==([33,61]:Str)then
     au (eT 2) fun x6=>
     some (x6,0)
    else
     if op1==([60]:Str)then
      au (fC a1) fun x7=>
      au (
        if x7 then
         fC b1
        else
         some false) fun b2=>
      au (
        if b2 then
         some true
        else
         iC a1 b1 3) fun b3=>
      au (
        if b3 then
         some true
        else
         iC a1 b1 4) fun b4=>
      if b4 then
       au (eT 2) fun Jj=>
       some (Jj,0)
      else
       some ((ay.mk 0 []),9)
     else
      if op1==([60,61]:Str)then
       au (fC a1) fun LA=>
       au (
         if LA then
          fC b1
         else
          some false) fun b5=>
       au (
         if b5 then
          some true
         else
          iC a1 b1 3) fun b6=>
       au (
         if b6 then
          some true
         else
          iC a1 b1 4) fun b7=>
       if b7 then
        au (eT 2) fun Lx=>
        some (Lx,0)
       else
        some ((ay.mk 0 []),9)
      else
       if op1==([62]:Str)then
        au (fC a1) fun Wo=>
        au (
          if Wo then
           fC b1
          else
           some false) fun b8=>
        au (
          if b8 then
           some true
          else
           iC a1 b1 3) fun b9=>
        au (
          if b9 then
           some true
          else
           iC a1 b1 4) fun b10=>
        if b10 then
         au (eT 2) fun x21=>
         some (x21,0)
        else
         some ((ay.mk 0 []),9)
       else
        if op1==([62,61]:Str)then
         au (fC a1) fun x22=>
         au (
           if x22 then
            fC b1
           else
            some false) fun b11=>
         au (
           if b11 then
            some true
           else
            iC a1 b1 3) fun b12=>
         au (
           if b12 then
            some true
           else
            iC a1 b1 4) fun b13=>
         if b13 then
          au (eT 2) fun x26=>
          some (x26,0)
         else
          some ((ay.mk 0 []),9)
        else
         if op1==([45]:Str)then
          au (jk 3 a1 b1) fun x27=>
          if x27 then
           au (eT 3) fun x28=>
           some (x28,0)
          else
           some ((ay.mk 0 []),9)
         else
          if op1==([42]:Str)then
           au (jk 3 a1 b1) fun x29=>
           if x29 then
            au (eT 3) fun x30=>
            some (x30,0)
           else
            some ((ay.mk 0 []),9)
          else
           if op1==([47]:Str)then
            au (jk 3 a1 b1) fun x31=>
            if x31 then
             au (eT 3) fun x32=>
             some (x32,0)
            else
             some ((ay.mk 0 []),9)
           else
            if op1==([37]:Str)then
             au (jk 3 a1 b1) fun x33=>
             if x33 then
              au (eT 3) fun x34=>
              some (x34,0)
             else
              some ((ay.mk 0 []),9)
            else
             if op1==([43]:Str)then
              Ho a1 b1
             else
              some ((ay.mk 0 []),9)
def qR(eP:Int)(iX:List ay):Nat→Int→ay→Option (ay × Int)
 | 0,_,_=>none
 | dW+1,x2,mo=>
  if decide (x2<(iX.length:Int))then
   au (idx iX x2) fun e1=>
   au (l7 mo e1) fun x3=>
   qR eP iX dW (bF (x2+1)) x3
  else
   au (lU eP mo) fun x4=>
   au (jX x4) fun x5=>
   if x5 !=0 then
    some ((ay.mk 0 []),13)
   else
    some (x4,0)
def sI(eP:Int)(iX:List ay):Option (ay × Int):=
 au (eT 7) fun x1=>
 qR eP iX BIG 0 x1
def DT(gD iT:ak→List aT→Option (ay × Int))(jf:List ak→List aT→Option (List ay × Int))(e1:ak)(dJ:List aT):Option (ay × Int):=
 if e1.kind==5 then
  iT e1 dJ
 else
  fD (jf e1.args dJ) fun iX f1=>
  if f1 !=0 then
   some ((ay.mk 0 []),f1)
  else
   if e1.kind==1 then
    au (Gs e1.value) fun x3=>
    some (x3,0)
   else
    if e1.kind==2 then
     vO dJ e1.name
    else
     if e1.kind==3 then
      au (idx iX 0) fun e2=>
      Ac e2
     else
      if e1.kind==4 then
       au (idx iX 0) fun e3=>
       au (idx iX 1) fun e4=>
       Cx e3 e4
      else
       if e1.kind==6 then
        au (idx iX 0) fun e5=>
        Cw e1.name e5
       else
        if e1.kind==7 then
         au (idx iX 0) fun e6=>
         au (idx iX 1) fun e7=>
         DU e1.name e6 e7
        else
         if e1.kind==8 then
          au (idx iX 0) fun e8=>
          au (eT 2) fun Vu=>
          au (iM e8 Vu) fun Ro=>
          if !Ro then
           some ((ay.mk 0 []),9)
          else
           au (idx iX 1) fun e9=>
           au (idx iX 2) fun e10=>
           au (l7 e9 e10) fun Lx=>
           some (Lx,0)
         else
          if e1.kind==9 then
           sI 5 iX
          else
           sI 6 iX
def ng(e1:ak)(jv:List (List ay))(x1:ay)(iX:List ay):Nat→Int→Option (ay × Int)
 | 0,_=>none
 | dW+1,x2=>
  if decide (x2<(jv.length:Int))then
   au (idx jv x2) fun C9=>
   au (qQ iX C9) fun x3=>
   if !x3 then
    ng e1 jv x1 iX dW (bF (x2+1))
   else
    if !(e1.name==([100,101,102,97,117,108,116]:Str))then
     some (x1,0)
    else
     au (idx iX 0) fun e3=>
     if e3.kind==1 then
      au (idx iX 1) fun e4=>
      some (e4,0)
     else
      au (idx iX 0) fun e5=>
      some (e5,0)
  else
   some ((ay.mk 0 []),9)
def Ad(gD iT:ak→List aT→Option (ay × Int))(jf:List ak→List aT→Option (List ay × Int))(e1:ak)(dJ:List aT):Option (ay × Int):=
 fD (jr e1.name) fun jv x1=>
 if (jv.length:Int)==0 then
  some ((ay.mk 0 []),10)
 else
  au (idx jv 0) fun e2=>
  if (e1.args.length:Int) !=(e2.length:Int)then
   some ((ay.mk 0 []),1)
  else
   fD (jf e1.args dJ) fun iX f1=>
   if f1 !=0 then
    some ((ay.mk 0 []),f1)
   else
    ng e1 jv x1 iX BIG 0
def oI(gD:ak→List aT→Option (ay × Int))(l1:List ak)(dJ:List aT):Nat→List ay→Int→Option (List ay × Int)
 | 0,_,_=>none
 | dW+1,bP,x1=>
  if decide (x1<(l1.length:Int))then
   au (idx l1 x1) fun e1=>
   fD (gD e1 dJ) fun x2 f1=>
   if f1 !=0 then
    some ([],f1)
   else
    au (app bP [x2]) fun xk=>
    oI gD l1 dJ dW xk (bF (x1+1))
  else
   some (bP,0)
def KF(gD iT:ak→List aT→Option (ay × Int))(jf:List ak→List aT→Option (List ay × Int))(l1:List ak)(dJ:List aT):Option (List ay × Int):=
 oI gD l1 dJ BIG [] 0
mutual
def gK:Nat→ak→List aT→Option (ay × Int)
 | 0,_,_=>none
 | k+1,jo,kU=>DT (gK k) (lV k) (kG k) jo kU
def lV:Nat→ak→List aT→Option (ay × Int)
 | 0,_,_=>none
 | k+1,jo,kU=>Ad (gK k) (lV k) (kG k) jo kU
def kG:Nat→List ak→List aT→Option (List ay × Int)
 | 0,_,_=>none
 | k+1,Rs,kU=>KF (gK k) (lV k) (kG k) Rs kU
end
def M_(jo:ak)(kU:List aT):Option (ay × Int):=gK BIG jo kU
def acX(jo:ak)(kU:List aT):Option (ay × Int):=lV BIG jo kU
def agi(Rs:List ak)(kU:List aT):Option (List ay × Int):=kG BIG Rs kU
def Bf(e1:ak)(dJ:List aT):Option (ay × Int):=
 au (Ei dJ) fun f1=>
 if f1 !=0 then
  some ((ay.mk 0 []),f1)
 else
  au (je e1) fun f2=>
  if f2 !=0 then
   some ((ay.mk 0 []),f2)
  else
   fD (M_ e1 dJ) fun x1 f3=>
   if f3 !=0 then
    some ((ay.mk 0 []),f3)
   else
    au (eT 7) fun x2=>
    au (l7 x1 x2) fun x3=>
    some (x3,0)
def pU(dJ:List aT)(s1:Option Int)(x1:ak):Option (Bool × Option Int):=
 match s1 with
 | some _=>none
 | none=>
  fD (Bf x1 dJ) fun t1 nL=>
  if nL !=0 then
   some (false,some nL)
  else
   if (t1.kind==5)||(t1.kind==6)then
    some (false,some 9)
   else
    some (true,none)
def tL(s1:Str)(dJ:List aT):Option Int:=
 mq (oF s1) fun ps1 _ nL=>
 if nL !=0 then
  some nL
 else
  au (Ei dJ) fun Hf=>
  if Hf !=0 then
   some Hf
  else
   au (pR (pU dJ) none ps1) fun s2=>
   some (s2.getD 0)
def yY:Option Bool:=
 au (app ([97]:Str) ([36]:List UInt8)) fun x1=>
 au (app x1 ([36]:List UInt8)) fun x2=>
 au (app x2 ([98]:Str)) fun x3=>
 au Ol fun x4=>
 au (app x3 x4) fun x5=>
 au (app x5 ([120,32,43,32,49,125,99]:Str)) fun s1=>
 mq (oF s1) fun l1 x6 e1=>
 fD (uw s1 [(aF.mk ([120]:Str) (ah.mk 2 false 2 ([]:Str) [] []))]) fun t1 f1=>
 fD (Iy s1) fun n1 g1=>
 au Ol fun x7=>
 au (app ([97]:Str) x7) fun x8=>
 au (app x8 ([49,32,43,125]:Str)) fun x9=>
 mq (oF x9) fun Fh dP hx1=>
 au (
   if (e1 !=0)||((l1.length:Int) !=3)then
    some true
   else
    au (idx l1 0) fun e2=>
    au (app ([97]:Str) ([36]:List UInt8)) fun Jj=>
    au (app Jj ([98]:Str)) fun LA=>
    some (!(e2.text==LA))) fun b1=>
 au (
   if b1 then
    some true
   else
    au (idx l1 1) fun e3=>
    some (!e3.VG)) fun b2=>
 au (
   if b2 then
    some true
   else
    au (idx l1 2) fun e4=>
    some (!(e4.text==([99]:Str)))) fun b3=>
 au (
   if b3||(f1 !=0)then
    some true
   else
    au (app ([97]:Str) ([36]:List UInt8)) fun Ml=>
    au (app Ml ([98,51,99]:Str)) fun Vu=>
    some (!(t1==Vu))) fun b4=>
 if b4 then
  some false
 else
  au (
    if (g1==0)&&((n1.length:Int)==1)then
     au (idx n1 0) fun e5=>
     some (e5==([120]:Str))
    else
     some false) fun b5=>
  au (
    if (b5&&(dP==6))&&(hx1==4)then
     au (Ki l1) fun Ro=>
     some (Ro==s1)
    else
     some false) fun b6=>
  au (
    if b6 then
     au (tL s1 [(aT.mk ([120]:Str) (ay.mk 3 []))]) fun Lx=>
     some (Lx==0)
    else
     some false) fun b7=>
  if b7 then
   au (tL s1 []) fun Wo=>
   some (Wo==10)
  else
   some false
def jY(eP:Int):Option ay:=
 some (ay.mk eP [])
def AU(eP:Int):Option Bool:=
 some ((eP==5)||(eP==6))
def jG(eP:Int)(t1:ay):Option ay:=
 some (ay.mk eP [t1])
def yx(FU:ay→ay→Option ay)(a1 b1:ay):Option ay:=
 if a1.kind==7 then
  some b1
 else
  if b1.kind==7 then
   some a1
  else
   if a1.kind !=b1.kind then
    jY 0
   else
    au (AU a1.kind) fun x2=>
    if x2 then
     au (idx a1.elem 0) fun e1=>
     au (idx b1.elem 0) fun e2=>
     au (FU e1 e2) fun x3=>
     jG a1.kind x3
    else
     some a1
def vg:Nat→ay→ay→Option ay
 | 0,_,_=>none
 | k+1,Bo,Bn=>yx (vg k) Bo Bn
def JQ(Bo Bn:ay):Option ay:=vg BIG Bo Bn
def Gz(wG:ah→Option ay)(v1:ah):Nat→Int→ay→Option ay
 | 0,_,_=>none
 | dW+1,i1,t1=>
  if decide (i1<(v1.aO.length:Int))then
   au (idx v1.aO i1) fun e1=>
   au (wG e1) fun x6=>
   au (JQ t1 x6) fun x7=>
   Gz wG v1 dW (bF (i1+1)) x7
  else
   if v1.kind==5 then
    jG 6 t1
   else
    jG 5 t1
def NU(wG:ah→Option ay)(v1:ah):Option ay:=
 if v1.kind==0 then
  jY 1
 else
  if v1.kind==1 then
   jY 2
  else
   if v1.kind==2 then
    jY 3
   else
    if v1.kind==3 then
     jY 4
    else
     au (jY 7) fun x5=>
     Gz wG v1 BIG 0 x5
def EI:Nat→ah→Option ay
 | 0,_=>none
 | k+1,nS=>NU (EI k) nS
def ab8(nS:ah):Option ay:=EI BIG nS
def PE(v1:ah):Option ay:=
 au (yT v1) fun x1=>
 if x1 !=0 then
  jY 0
 else
  ab8 v1
def mR(s1:Str)(gZ:List aF):Nat→List aT→Int→Option Bool
 | 0,_,_=>none
 | dW+1,dJ,i1=>
  if decide (i1<(gZ.length:Int))then
   au (idx gZ i1) fun e1=>
   au (idx gZ i1) fun e2=>
   au (PE e2.value) fun x3=>
   au (app dJ [(aT.mk e1.name x3)]) fun asJ=>
   mR s1 gZ dW asJ (bF (i1+1))
  else
   au (tL s1 dJ) fun x4=>
   if x4 !=0 then
    yY
   else
    fD (uw s1 gZ) fun x6 e3=>
    if ((((e3 !=10)&&(e3 !=5))&&(e3 !=4))&&(e3 !=2))&&(e3 !=7)then
     yY
    else
     some false
def ug(s1:Str)(gZ:List aF):Option Bool:=
 au (
   if (decide (6000<(s1.length:Int)))||(decide (300<(gZ.length:Int)))then
    some true
   else
    au (NS gZ) fun x1=>
    some (x1 !=0)) fun b1=>
 if b1 then
  yY
 else
  mR s1 gZ BIG [] 0
end Go.Ft
