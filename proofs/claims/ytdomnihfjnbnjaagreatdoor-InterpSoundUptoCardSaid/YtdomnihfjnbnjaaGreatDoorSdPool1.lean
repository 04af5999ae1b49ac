/- Proved here: nothing: further functional texts, as our program wrote them. -/
import Derived.Test.YtdomnihfjnbnjaaGreatDoorSdFt1
set_option linter.unusedVariables false
set_option linter.unusedSimpArgs false
set_option linter.defProp false
set_option linter.unusedSectionVars false
namespace Go.Ft
open Go
def Ic(DI:ak→Option Int)(e1:ak):Nat→Int→Int→Option Int
 | 0,_,_=>none
 | dW+1,n1,i1=>
 if decide (i1<(e1.args.length:Int))then
  au (idx e1.args i1) fun e2=>
  au (DI e2) fun x1=>
  Ic DI e1 dW (bF (n1+x1)) (bF (i1+1))
 else
  some n1
def QW(DI:ak→Option Int)(e1:ak):Option Int:=
 Ic DI e1 BIG 1 0
def yS:Nat→ak→Option Int
 | 0,_=>none
 | k+1,jo=>QW (yS k) jo
def Pz(jo:ak):Option Int:=yS BIG jo
def QX(YH:ay→Int→Option Int)(t1:ay)(bM:Int):Option Int:=
 if decide (16<bM)then
 some 13
 else
 if (decide (t1.kind<0))||(decide (7<t1.kind))then
  some 1
 else
  au (AU t1.kind) fun x1=>
  if !x1 then
  if decide (0<(t1.elem.length:Int))then
   some 1
  else
   some 0
  else
  if (t1.elem.length:Int) !=1 then
   some 1
  else
   au (idx t1.elem 0) fun e1=>
   YH e1 (bF (bM+1))
def FI:Nat→ay→Int→Option Int
 | 0,_,_=>none
 | k+1,Gd,gI=>QX (FI k) Gd gI
def afp(Gd:ay)(gI:Int):Option Int:=FI BIG Gd gI
def AV(t1:ay):Option Int:=
 afp t1 1
def Ia(dJ:List aT)(i1:Int)(Mc:Int→Option Int):Nat→Int→Option Int
 | 0,_=>none
 | kk2+1,Ak=>
 if decide (Ak<i1)then
  au (idx dJ Ak) fun e4=>
  au (idx dJ i1) fun e5=>
  if e4.name==e5.name then
  some 7
  else
  Ia dJ i1 Mc kk2 (bF (Ak+1))
 else
  Mc (bF (i1+1))
def EH(dJ:List aT):Nat→Int→Option Int
 | 0,_=>none
 | dW+1,i1=>
 if decide (i1<(dJ.length:Int))then
  au (idx dJ i1) fun e1=>
  au (qw e1.name) fun x1=>
  if !x1 then
  some 1
  else
  au (idx dJ i1) fun e2=>
  au (AV e2.oM) fun e3=>
  if e3 !=0 then
   some e3
  else
   Ia dJ i1 (EH dJ dW) BIG 0
 else
  some 0
def Yj(dJ:List aT):Option Int:=
 if decide (1024<(dJ.length:Int))then
 some 3
 else
 EH dJ BIG 0
def Px(e1:ak):Option Bool:=
 if e1.kind==1 then
 some ((e1.args.length:Int)==0)
 else
 if e1.kind==2 then
  some ((e1.args.length:Int)==0)
 else
  if e1.kind==3 then
  some ((e1.args.length:Int)==1)
  else
  if e1.kind==6 then
   some ((e1.args.length:Int)==1)
  else
   if e1.kind==4 then
   some ((e1.args.length:Int)==2)
   else
   if e1.kind==7 then
    some ((e1.args.length:Int)==2)
   else
    if e1.kind==8 then
    some ((e1.args.length:Int)==3)
    else
    some (((e1.kind==5)||(e1.kind==9))||(e1.kind==10))
def Dm(op1:Str):Option Int:=
 if op1==([124,124]:Str)then
 some 2
 else
 if op1==([38,38]:Str)then
  some 3
 else
  if op1==([61,61]:Str)then
  some 4
  else
  if op1==([33,61]:Str)then
   some 4
  else
   if op1==([60]:Str)then
   some 4
   else
   if op1==([60,61]:Str)then
    some 4
   else
    if op1==([62]:Str)then
    some 4
    else
    if op1==([62,61]:Str)then
     some 4
    else
     if op1==([43]:Str)then
     some 5
     else
     if op1==([45]:Str)then
      some 5
     else
      if op1==([42]:Str)then
      some 6
      else
      if op1==([47]:Str)then
       some 6
      else
       if op1==([37]:Str)then
       some 6
       else
       some 0
def Pw(e1:ak):Option Bool:=
 if e1.kind==2 then
 qw e1.name
 else
 if e1.kind==3 then
  qw e1.name
 else
  if e1.kind==5 then
  qw e1.name
  else
  if e1.kind==6 then
   some ((e1.name==([33]:Str))||(e1.name==([45]:Str)))
  else
   if e1.kind==7 then
   au (Dm e1.name) fun x4=>
   some (decide (0<x4))
   else
   some (e1.name==([]:Str))
def JU(vI:ah→ah→Option Bool)(a1 b1:ah):Nat→Int→Option Bool
 | 0,_=>none
 | kk2+1,i2=>
 if decide (i2<(a1.aO.length:Int))then
  au (idx a1.aO i2) fun e3=>
  au (idx b1.aO i2) fun e4=>
  au (vI e3 e4) fun x1=>
  if !x1 then
  some false
  else
  JU vI a1 b1 kk2 (bF (i2+1))
 else
  some true
def JV(vI:ah→ah→Option Bool)(a1 b1:ah):Nat→Int→Option Bool
 | 0,_=>none
 | dW+1,i1=>
 if decide (i1<(a1.keys.length:Int))then
  au (idx a1.keys i1) fun e1=>
  au (idx b1.keys i1) fun e2=>
  if !(e1==e2)then
  some false
  else
  JV vI a1 b1 dW (bF (i1+1))
 else
  JU vI a1 b1 BIG 0
def Tw(vI:ah→ah→Option Bool)(a1 b1:ah):Option Bool:=
 if (((((a1.kind !=b1.kind)||(!(a1.dZ==b1.dZ)))||(a1.eB !=b1.eB))||(!(a1.bV==b1.bV)))||((a1.aO.length:Int) !=(b1.aO.length:Int)))||((a1.keys.length:Int) !=(b1.keys.length:Int))then
 some false
 else
 JV vI a1 b1 BIG 0
def MI:Nat→ah→ah→Option Bool
 | 0,_,_=>none
 | k+1,Bo,Bn=>Tw (MI k) Bo Bn
def Tx(Bo Bn:ah):Option Bool:=MI BIG Bo Bn
def Bv(e1:ak):Nat→Int→Option Bool
 | 0,_=>none
 | dW+1,i1=>
 if decide (i1<(e1.keys.length:Int))then
  au (idx e1.keys i1) fun e2=>
  au (
   if decide ((e2.length:Int)<1)then
   some true
   else
   au (idx e1.keys i1) fun e3=>
   some (decide (64<(e3.length:Int)))) fun b4=>
  if b4 then
  some false
  else
  Bv e1 dW (bF (i1+1))
 else
  some ((e1.keys.length:Int)==(e1.args.length:Int))
def MF(e1:ak):Option Bool:=
 au (Px e1) fun x1=>
 au (
  if !x1 then
  some true
  else
  au (Pw e1) fun x2=>
  some (!x2)) fun b1=>
 au (
  if b1 then
  some true
  else
  if e1.kind !=1 then
   au (Tx e1.value (ah.mk 0 false 0 ([]:Str) [] [])) fun x3=>
   some (!x3)
  else
   some false) fun b2=>
 if b2 then
 some false
 else
 if e1.kind !=10 then
  some ((e1.keys.length:Int)==0)
 else
  Bv e1 BIG 0
def Dl(ER:List Str)(i1:Int)(Ja:Int→Option Bool):Nat→Int→Option Bool
 | 0,_=>none
 | kk2+1,Ak=>
 if decide (Ak<i1)then
  au (idx ER i1) fun e1=>
  au (idx ER Ak) fun e2=>
  if e1==e2 then
  some true
  else
  Dl ER i1 Ja kk2 (bF (Ak+1))
 else
  Ja (bF (i1+1))
def zA(ER:List Str):Nat→Int→Option Bool
 | 0,_=>none
 | dW+1,i1=>
 if decide (i1<(ER.length:Int))then
  Dl ER i1 (zA ER dW) BIG 0
 else
  some false
def Pv(ER:List Str):Option Bool:=
 zA ER BIG 0
def Ib(DF:ak→Int→Option Int)(e1:ak)(bM:Int):Nat→Int→Option Int
 | 0,_=>none
 | dW+1,i1=>
 if decide (i1<(e1.args.length:Int))then
  au (idx e1.args i1) fun e2=>
  au (DF e2 (bF (bM+1))) fun f2=>
  if f2 !=0 then
  some f2
  else
  Ib DF e1 bM dW (bF (i1+1))
 else
  some 0
def QU(DF:ak→Int→Option Int)(e1:ak)(bM:Int):Option Int:=
 if decide (16<bM)then
 some 13
 else
 au (MF e1) fun x1=>
 if !x1 then
  some 1
 else
  au (yT e1.value) fun f1=>
  if (e1.kind==1)&&(f1 !=0)then
  some f1
  else
  if decide (1024<(e1.args.length:Int))then
   some 3
  else
   au (Pv e1.keys) fun x2=>
   if x2 then
   some 7
   else
   Ib DF e1 bM BIG 0
def yR:Nat→ak→Int→Option Int
 | 0,_,_=>none
 | k+1,jo,gI=>QU (yR k) jo gI
def Xb(jo:ak)(gI:Int):Option Int:=yR BIG jo gI
def K7(e1:ak):Option Int:=
 au (Pz e1) fun x1=>
 if decide (4096<x1)then
 some 15
 else
 Xb e1 1
def FC(e1:ak)(dJ:List aT):Nat→Int→Option (ay × Int)
 | 0,_=>none
 | dW+1,i1=>
 if decide (i1<(dJ.length:Int))then
  au (idx dJ i1) fun e2=>
  if e2.name==e1.name then
  au (idx dJ i1) fun e3=>
  some (e3.oM,0)
  else
  FC e1 dJ dW (bF (i1+1))
 else
  some ((ay.mk 0 []),10)
def ED(e1:ak)(dJ:List aT):Option (ay × Int):=
 if e1.kind==1 then
 au (PE e1.value) fun x1=>
 some (x1,0)
 else
 FC e1 dJ BIG 0
def uZ(name1:Str):Option Int:=
 if name1==([108,101,110]:Str)then
 some 1
 else
 if name1==([108,111,119,101,114]:Str)then
  some 1
 else
  if name1==([117,112,112,101,114]:Str)then
  some 1
  else
  if name1==([115,116,114,105,110,103]:Str)then
   some 1
  else
   if name1==([105,110,116]:Str)then
   some 1
   else
   if name1==([107,101,121,115]:Str)then
    some 1
   else
    if name1==([99,111,110,116,97,105,110,115]:Str)then
    some 2
    else
    if name1==([106,111,105,110]:Str)then
     some 2
    else
     if name1==([115,112,108,105,116]:Str)then
     some 2
     else
     if name1==([115,116,97,114,116,115,119,105,116,104]:Str)then
      some 2
     else
      if name1==([101,110,100,115,119,105,116,104]:Str)then
      some 2
      else
      if name1==([100,101,102,97,117,108,116]:Str)then
       some 2
      else
       some (-1)
def gV(t1:ay):Option Bool:=
 some ((t1.kind==0)||(t1.kind==7))
def fM(eP:Int):Option ay:=
 jY eP
def rT(Ov:ay→ay→Option Bool)(t1 u1:ay):Option Bool:=
 au (gV t1) fun x1=>
 if x1||(u1.kind==0)then
 some true
 else
 if t1.kind !=u1.kind then
  some false
 else
  if (t1.elem.length:Int)==0 then
  some true
  else
  au (idx t1.elem 0) fun e1=>
  au (idx u1.elem 0) fun e2=>
  Ov e1 e2
def mP:Nat→ay→ay→Option Bool
 | 0,_,_=>none
 | k+1,Gd,X3=>rT (mP k) Gd X3
def eX(Gd X3:ay):Option Bool:=mP BIG Gd X3
def gG(t1:ay)(eP:Int):Option Bool:=
 au (fM eP) fun x1=>
 eX t1 x1
def Pt(a1 b1:ay):Option (ay × Bool):=
 if a1.kind==5 then
 au (idx a1.elem 0) fun e1=>
 au (gG b1 3) fun x1=>
 some (e1,x1)
 else
 if a1.kind==6 then
  au (idx a1.elem 0) fun e2=>
  au (gG b1 4) fun x2=>
  some (e2,x2)
 else
  au (gV a1) fun x3=>
  au (
   if x3 then
   au (gG b1 3) fun x4=>
   if x4 then
    some true
   else
    gG b1 4
   else
   some false) fun b2=>
  some (a1,b2)
def Gx(eP:Int):Option ay:=
 au (fM 0) fun x1=>
 jG eP x1
def gu(name1:Str)(l1:List ay):Option (ay × Bool):=
 au (fM 4) fun x1=>
 if name1==([108,101,110]:Str)then
 au (fM 3) fun x2=>
 au (idx l1 0) fun e1=>
 au (gG e1 4) fun x3=>
 au (
  if x3 then
   some true
  else
   au (idx l1 0) fun e2=>
   au (Gx 5) fun x4=>
   eX e2 x4) fun b1=>
 au (
  if b1 then
   some true
  else
   au (idx l1 0) fun e3=>
   au (Gx 6) fun x6=>
   eX e3 x6) fun b2=>
 some (x2,b2)
 else
 if name1==([99,111,110,116,97,105,110,115]:Str)then
  au (fM 2) fun x8=>
  au (idx l1 0) fun e4=>
  au (Gx 5) fun x9=>
  au (eX e4 x9) fun Fh=>
  au (
   if Fh then
   some true
   else
   au (idx l1 1) fun e5=>
   au (gG e5 4) fun Jj=>
   if Jj then
    au (idx l1 0) fun e6=>
    au (gG e6 4) fun LA=>
    if LA then
    some true
    else
    au (idx l1 0) fun e7=>
    au (Gx 6) fun Ml=>
    eX e7 Ml
   else
    some false) fun b3=>
  some (x8,b3)
 else
  if name1==([106,111,105,110]:Str)then
  au (idx l1 0) fun e8=>
  au (jG 5 x1) fun Ro=>
  au (eX e8 Ro) fun Lx=>
  au (
   if Lx then
    au (idx l1 1) fun e9=>
    gG e9 4
   else
    some false) fun b6=>
  some (x1,b6)
  else
  if name1==([115,112,108,105,116]:Str)then
   au (jG 5 x1) fun x18=>
   au (idx l1 0) fun e10=>
   au (gG e10 4) fun x19=>
   au (
    if x19 then
    au (idx l1 1) fun e11=>
    gG e11 4
    else
    some false) fun b7=>
   some (x18,b7)
  else
   if name1==([108,111,119,101,114]:Str)then
   au (idx l1 0) fun e12=>
   au (gG e12 4) fun x21=>
   some (x1,x21)
   else
   if name1==([117,112,112,101,114]:Str)then
    au (idx l1 0) fun e13=>
    au (gG e13 4) fun x22=>
    some (x1,x22)
   else
    if name1==([115,116,97,114,116,115,119,105,116,104]:Str)then
    au (fM 2) fun x23=>
    au (idx l1 0) fun e14=>
    au (gG e14 4) fun x24=>
    au (
     if x24 then
      au (idx l1 1) fun e15=>
      gG e15 4
     else
      some false) fun b8=>
    some (x23,b8)
    else
    if name1==([101,110,100,115,119,105,116,104]:Str)then
     au (fM 2) fun x26=>
     au (idx l1 0) fun e16=>
     au (gG e16 4) fun x27=>
     au (
      if x27 then
      au (idx l1 1) fun e17=>
      gG e17 4
      else
      some false) fun b9=>
     some (x26,b9)
    else
     if name1==([115,116,114,105,110,103]:Str)then
     au (idx l1 0) fun e18=>
     au (
      if e18.kind !=5 then
       au (idx l1 0) fun e19=>
       some (e19.kind !=6)
      else
       some false) fun b10=>
     some (x1,b10)
     else
     if name1==([105,110,116]:Str)then
      au (fM 3) fun x29=>
      au (idx l1 0) fun e20=>
      au (gG e20 4) fun x30=>
      some (x29,x30)
     else
      if name1==([107,101,121,115]:Str)then
      au (jG 5 x1) fun x31=>
      au (idx l1 0) fun e21=>
      au (Gx 6) fun x32=>
      au (eX e21 x32) fun x33=>
      some (x31,x33)
      else
      au (idx l1 0) fun e22=>
      if e22.kind==1 then
       au (idx l1 1) fun e23=>
       some (e23,true)
      else
       au (idx l1 0) fun e24=>
       some (e24,true)
def tC(a1 b1:ay):Option Int:=
 au (gV a1) fun x1=>
 if x1 then
 some b1.kind
 else
 au (gV b1) fun x2=>
 if x2||(a1.kind==b1.kind)then
  some a1.kind
 else
  some (-1)
def FD(t1:ay):Option ay:=
 au (gV t1) fun x1=>
 if x1 then
 some t1
 else
 idx t1.elem 0
def aag(a1 b1:ay):Option Bool:=
 au (AV a1) fun x1=>
 if x1==0 then
 au (AV b1) fun x2=>
 some (x2==0)
 else
 some false
def EJ(a1 b1:ay):Option ay:=
 au (aag a1 b1) fun x1=>
 if !x1 then
 jY 0
 else
 JQ a1 b1
def K6(a1 b1:ay):Option (ay × Bool):=
 au (gV a1) fun x1=>
 au (
  if x1 then
  gV b1
  else
  some false) fun b2=>
 if b2 then
 if a1.kind==0 then
  some (a1,true)
 else
  some (b1,true)
 else
 au (tC a1 b1) fun Ak=>
 if Ak==5 then
  au (FD a1) fun x3=>
  au (FD b1) fun x4=>
  au (EJ x3 x4) fun x5=>
  au (jG Ak x5) fun x6=>
  some (x6,true)
 else
  au (fM Ak) fun x7=>
  some (x7,((Ak==3)||(Ak==4)))
def nT(op1:Str)(a1 b1:ay):Option (ay × Bool):=
 if op1==([38,38]:Str)then
 au (fM 2) fun x1=>
 au (gG a1 2) fun x2=>
 au (
  if x2 then
   gG b1 2
  else
   some false) fun b2=>
 some (x1,b2)
 else
 if op1==([124,124]:Str)then
  au (fM 2) fun x4=>
  au (gG a1 2) fun x5=>
  au (
   if x5 then
   gG b1 2
   else
   some false) fun b3=>
  some (x4,b3)
 else
  if op1==([61,61]:Str)then
  au (fM 2) fun x7=>
  some (x7,true)
  else
  if op1==([33,61]:Str)then
   au (fM 2) fun x8=>
   some (x8,true)
  else
   if op1==([60]:Str)then
   au (tC a1 b1) fun Ak=>
   au (fM 2) fun x9=>
   au (gV a1) fun Fh=>
   au (
    if Fh then
     gV b1
    else
     some false) fun b4=>
   some (x9,((b4||(Ak==3))||(Ak==4)))
   else
   if op1==([60,61]:Str)then
    au (tC a1 b1) fun kx2=>
    au (fM 2) fun LA=>
    au (gV a1) fun Ml=>
    au (
     if Ml then
     gV b1
     else
     some false) fun b5=>
    some (LA,((b5||(kx2==3))||(kx2==4)))
   else
    if op1==([62]:Str)then
    au (tC a1 b1) fun kx3=>
    au (fM 2) fun Ro=>
    au (gV a1) fun Lx=>
    au (
     if Lx then
      gV b1
     else
      some false) fun b6=>
    some (Ro,((b6||(kx3==3))||(kx3==4)))
    else
    if op1==([62,61]:Str)then
     au (tC a1 b1) fun kx4=>
     au (fM 2) fun x18=>
     au (gV a1) fun x19=>
     au (
      if x19 then
      gV b1
      else
      some false) fun b7=>
     some (x18,((b7||(kx4==3))||(kx4==4)))
    else
     if op1==([43]:Str)then
     K6 a1 b1
     else
     au (fM 3) fun x23=>
     au (gG a1 3) fun x24=>
     au (
      if x24 then
       gG b1 3
      else
       some false) fun b8=>
     some (x23,b8)
def JM(e1:ak)(l1:List ay):Nat→Int→ay→Option (ay × Bool)
 | 0,_,_=>none
 | dW+1,i1,t1=>
 if decide (i1<(l1.length:Int))then
  au (idx l1 i1) fun e16=>
  au (EJ t1 e16) fun Ro=>
  JM e1 l1 dW (bF (i1+1)) Ro
 else
  if e1.kind==10 then
  au (jG 6 t1) fun Lx=>
  some (Lx,true)
  else
  au (jG 5 t1) fun Wo=>
  some (Wo,true)
def fQ(e1:ak)(l1:List ay):Option (ay × Bool):=
 if e1.kind==3 then
 au (idx l1 0) fun e2=>
 if e2.kind==6 then
  au (idx l1 0) fun e3=>
  au (idx e3.elem 0) fun e4=>
  some (e4,true)
 else
  au (idx l1 0) fun e5=>
  au (idx l1 0) fun e6=>
  au (gV e6) fun x1=>
  some (e5,x1)
 else
 if e1.kind==4 then
  au (idx l1 0) fun e7=>
  au (idx l1 1) fun e8=>
  Pt e7 e8
 else
  if e1.kind==5 then
  gu e1.name l1
  else
  if e1.kind==6 then
   if e1.name==([33]:Str)then
   au (fM 2) fun x6=>
   au (idx l1 0) fun e9=>
   au (gG e9 2) fun x7=>
   some (x6,x7)
   else
   au (fM 3) fun x8=>
   au (idx l1 0) fun e10=>
   au (gG e10 3) fun x9=>
   some (x8,x9)
  else
   if e1.kind==7 then
   au (idx l1 0) fun e11=>
   au (idx l1 1) fun e12=>
   nT e1.name e11 e12
   else
   if e1.kind==8 then
    au (idx l1 1) fun e13=>
    au (idx l1 2) fun e14=>
    au (EJ e13 e14) fun LA=>
    au (idx l1 0) fun e15=>
    au (gG e15 2) fun Ml=>
    some (LA,Ml)
   else
    au (fM 7) fun Vu=>
    JM e1 l1 BIG 0 Vu
def uY(FT:ak→List aT→Option (ay × Int))(e1:ak)(dJ:List aT):Nat→List ay→Int→Option (ay × Int)
 | 0,_,_=>none
 | dW+1,l1,i1=>
 if decide (i1<(e1.args.length:Int))then
  au (idx e1.args i1) fun e2=>
  fD (FT e2 dJ) fun x5 f1=>
  if f1 !=0 then
  some ((ay.mk 0 []),f1)
  else
  au (app l1 [x5]) fun l2=>
  uY FT e1 dJ dW l2 (bF (i1+1))
 else
  fD (fQ e1 l1) fun x6 ok1=>
  if !ok1 then
  some ((ay.mk 0 []),9)
  else
  au (AV x6) fun x7=>
  if x7 !=0 then
   some ((ay.mk 0 []),13)
  else
   some (x6,0)
def EG(FT:ak→List aT→Option (ay × Int))(e1:ak)(dJ:List aT):Option (ay × Int):=
 if (e1.kind==1)||(e1.kind==2)then
 ED e1 dJ
 else
 au (
  if e1.kind==5 then
   au (uZ e1.name) fun x3=>
   some (decide (x3<0))
  else
   some false) fun b1=>
 if b1 then
  some ((ay.mk 0 []),10)
 else
  au (
   if e1.kind==5 then
   au (uZ e1.name) fun x4=>
   some (x4 !=(e1.args.length:Int))
   else
   some false) fun b2=>
  if b2 then
  some ((ay.mk 0 []),1)
  else
  uY FT e1 dJ BIG [] 0
def jO:Nat→ak→List aT→Option (ay × Int)
 | 0,_,_=>none
 | k+1,jo,kU=>EG (jO k) jo kU
def nW(jo:ak)(kU:List aT):Option (ay × Int):=jO BIG jo kU
def Tp(e1:ak)(dJ:List aT):Option (ay × Int):=
 au (Yj dJ) fun f1=>
 if f1 !=0 then
 some ((ay.mk 0 []),f1)
 else
 au (K7 e1) fun f2=>
 if f2 !=0 then
  some ((ay.mk 0 []),f2)
 else
  nW e1 dJ
def K5(s1:Str):Option ah:=
 some (ah.mk 3 false 0 s1 [] [])
def Ig(v1:ah)(key1:Str):Nat→Int→Option (ah × Bool)
 | 0,_=>none
 | dW+1,i1=>
 if decide (i1<(v1.keys.length:Int))then
  au (idx v1.keys i1) fun e1=>
  if e1==key1 then
  if decide ((v1.aO.length:Int)≤i1)then
   some ((ah.mk 0 false 0 ([]:Str) [] []),false)
  else
   au (idx v1.aO i1) fun e2=>
   some (e2,true)
  else
  Ig v1 key1 dW (bF (i1+1))
 else
  some ((ah.mk 0 false 0 ([]:Str) [] []),false)
def Yl(v1:ah)(key1:Str):Option (ah × Bool):=
 if v1.kind !=5 then
 some ((ah.mk 0 false 0 ([]:Str) [] []),false)
 else
 Ig v1 key1 BIG 0
def BA(Kl:Int→Option Str)(n1:Int):Option Str:=
 if decide (n1<0)then
 if decide ((-10)<n1)then
  app ([45]:Str) ([(Ft.byteOf (bF (48-n1)))]:List UInt8)
 else
  au (Kl (bF ((n1:Int).tdiv 10))) fun x2=>
  app x2 ([(Ft.byteOf (bF (48-((n1:Int).tmod 10))))]:List UInt8)
 else
 if decide (n1<10)then
  some ([(Ft.byteOf (bF (48+n1)))]:List UInt8)
 else
  au (Kl (bF ((n1:Int).tdiv 10))) fun x4=>
  app x4 ([(Ft.byteOf (bF (48+((n1:Int).tmod 10))))]:List UInt8)
def mZ:Nat→Int→Option Str
 | 0,_=>none
 | k+1,X4=>BA (mZ k) X4
def JW(X4:Int):Option Str:=mZ BIG X4
def Vy(c1:UInt8):Option Str:=
 if (c1.toNat:Int)==34 then
 some ([92,34]:List UInt8)
 else
 if (c1.toNat:Int)==92 then
  some ([92,92]:List UInt8)
 else
  if (c1.toNat:Int)==10 then
  some ([92,110]:List UInt8)
  else
  if (c1.toNat:Int)==9 then
   some ([92,116]:List UInt8)
  else
   if (decide (32≤(c1.toNat:Int)))&&(decide ((c1.toNat:Int)≤126))then
   some ([c1]:List UInt8)
   else
   au (idx ([48,49,50,51,52,53,54,55,56,57,97,98,99,100,101,102]:Str) ((c1/16).toNat:Int)) fun x1=>
   au (idx ([48,49,50,51,52,53,54,55,56,57,97,98,99,100,101,102]:Str) ((c1%16).toNat:Int)) fun x2=>
   some ([92,120,x1,x2]:List UInt8)
def NW(s1:Str):Nat→Str→Int→Option Str
 | 0,_,_=>none
 | dW+1,bP,i1=>
 if decide (i1<(s1.length:Int))then
  au (idx s1 i1) fun x1=>
  au (Vy x1) fun x2=>
  au (app bP x2) fun xk=>
  NW s1 dW xk (bF (i1+1))
 else
  app bP ([34]:List UInt8)
def PK(s1:Str):Option Str:=
 NW s1 BIG ([34]:List UInt8) 0
def vk(kM:ah→Option Str)(v1:ah):Nat→Str→Int→Option Str
 | 0,_,_=>none
 | dW+1,s1,i1=>
 if decide (i1<(v1.aO.length:Int))then
  if decide (0<i1)then
  au (app s1 ([44,32]:Str)) fun s2=>
  if v1.kind==5 then
   au (idx v1.keys i1) fun e1=>
   au (PK e1) fun x3=>
   au (app s2 x3) fun x4=>
   au (app x4 ([58,32]:Str)) fun s3=>
   au (idx v1.aO i1) fun e2=>
   au (kM e2) fun x5=>
   au (app s3 x5) fun s4=>
   vk kM v1 dW s4 (bF (i1+1))
  else
   au (idx v1.aO i1) fun e3=>
   au (kM e3) fun x6=>
   au (app s2 x6) fun s5=>
   vk kM v1 dW s5 (bF (i1+1))
  else
  if v1.kind==5 then
   au (idx v1.keys i1) fun e4=>
   au (PK e4) fun x7=>
   au (app s1 x7) fun x8=>
   au (app x8 ([58,32]:Str)) fun s6=>
   au (idx v1.aO i1) fun e5=>
   au (kM e5) fun x9=>
   au (app s6 x9) fun s7=>
   vk kM v1 dW s7 (bF (i1+1))
  else
   au (idx v1.aO i1) fun e6=>
   au (kM e6) fun Fh=>
   au (app s1 Fh) fun s8=>
   vk kM v1 dW s8 (bF (i1+1))
 else
  if v1.kind==5 then
  au (app ([123]:Str) s1) fun Jj=>
  app Jj ([125]:Str)
  else
  au (app ([91]:Str) s1) fun Ml=>
  app Ml ([93]:Str)
def LW(kM:ah→Option Str)(v1:ah):Option Str:=
 if v1.kind==0 then
 some ([110,117,108,108]:Str)
 else
 if v1.kind==1 then
  if v1.dZ then
  some ([116,114,117,101]:Str)
  else
  some ([102,97,108,115,101]:Str)
 else
  if v1.kind==2 then
  JW v1.eB
  else
  if v1.kind==3 then
   PK v1.bV
  else
   vk kM v1 BIG ([]:Str) 0
def Gf:Nat→ah→Option Str
 | 0,_=>none
 | k+1,nS=>LW (Gf k) nS
def QY(nS:ah):Option Str:=Gf BIG nS
def aah(v1:ah):Option (Str × Int):=
 if (v1.kind==4)||(v1.kind==5)then
 some (([]:Str),9)
 else
 au (yT v1) fun e1=>
 if e1 !=0 then
  some (([]:Str),e1)
 else
  if v1.kind==0 then
  some (([]:Str),0)
  else
  if v1.kind==3 then
   some (v1.bV,0)
  else
   au (QY v1) fun x1=>
   some (x1,0)
def Dk(s1:Str)(Ur aaz:UInt8)(Gq:Int):Nat→List UInt8→Int→Option Str
 | 0,_,_=>none
 | dW+1,b1,i1=>
 if decide (i1<(s1.length:Int))then
  au (idx s1 i1) fun c1=>
  if (decide ((Ur.toNat:Int)≤(c1.toNat:Int)))&&(decide ((c1.toNat:Int)≤(aaz.toNat:Int)))then
  au (app b1 ([(Ft.byteOf (bF ((c1.toNat:Int)+Gq)))]:List UInt8)) fun b2=>
  Dk s1 Ur aaz Gq dW b2 (bF (i1+1))
  else
  au (app b1 ([c1]:List UInt8)) fun b3=>
  Dk s1 Ur aaz Gq dW b3 (bF (i1+1))
 else
  some b1
def Xa(s1:Str)(Ur aaz:UInt8)(Gq:Int):Option Str:=
 Dk s1 Ur aaz Gq BIG [] 0
def AQ(s1:Str):Nat→Int→Int→Option (Int × Bool)
 | 0,_,_=>none
 | dW+1,n1,i1=>
 if decide (i1<(s1.length:Int))then
  au (idx s1 i1) fun x2=>
  au (qx x2) fun x3=>
  if !x3 then
  some (0,false)
  else
  au (idx s1 i1) fun x4=>
  AQ s1 dW (bF ((bF ((bF (10*n1))+(x4.toNat:Int)))-48)) (bF (i1+1))
 else
  some (n1,(decide (n1≤9007199254740992)))
def Bz(s1:Str):Option (Int × Bool):=
 au (
  if (s1==([]:Str))||(decide (16<(s1.length:Int)))then
  some true
  else
  if decide (1<(s1.length:Int))then
   au (idx s1 0) fun x1=>
   some ((x1.toNat:Int)==48)
  else
   some false) fun b1=>
 if b1 then
 some (0,false)
 else
 AQ s1 BIG 0 0
def H_(s1:Str):Option (Int × Bool):=
 au (
  if !(s1==([]:Str))then
  au (idx s1 0) fun x1=>
  some ((x1.toNat:Int)==45)
  else
  some false) fun b1=>
 if b1 then
 au (sl s1 1 (s1.length:Int)) fun x2=>
 fD (Bz x2) fun n1 ok1=>
 some ((bF (0-n1)),(ok1&&(n1 !=0)))
 else
 Bz s1
def pI(al_:Bool):Option Int:=
 if al_ then
 some (-1)
 else
 some 1
def Dn(a1 b1:List Str):Nat→Int→Option Int
 | 0,_=>none
 | dW+1,i1=>
 if (decide (i1<(a1.length:Int)))&&(decide (i1<(b1.length:Int)))then
  au (idx a1 i1) fun e1=>
  au (idx b1 i1) fun e2=>
  au (qE e1 e2) fun c1=>
  if c1 !=0 then
  pI (decide (c1<0))
  else
  Dn a1 b1 dW (bF (i1+1))
 else
  if (a1.length:Int)==(b1.length:Int)then
  some 0
  else
  pI (decide ((a1.length:Int)<(b1.length:Int)))
def PG(a1 b1:List Str):Option Int:=
 Dn a1 b1 BIG 0
def LX(vJ:ah→ah→Option Int)(IB:List ah→List ah→Option Int)(a1 b1:ah):Option Int:=
 if a1.kind !=b1.kind then
 pI (decide (a1.kind<b1.kind))
 else
 if a1.kind==1 then
  if !(a1.dZ==b1.dZ)then
  pI b1.dZ
  else
  some 0
 else
  if a1.kind==2 then
  if a1.eB !=b1.eB then
   pI (decide (a1.eB<b1.eB))
  else
   some 0
  else
  if a1.kind==3 then
   if !(a1.bV==b1.bV)then
   pI (Go.Op.bytesLess a1.bV b1.bV)
   else
   some 0
  else
   if a1.kind==4 then
   IB a1.aO b1.aO
   else
   if a1.kind==5 then
    au (PG a1.keys b1.keys) fun c1=>
    if c1 !=0 then
    some c1
    else
    IB a1.aO b1.aO
   else
    some 0
def Dp(vJ:ah→ah→Option Int)(a1 b1:List ah):Nat→Int→Option Int
 | 0,_=>none
 | dW+1,i1=>
 if (decide (i1<(a1.length:Int)))&&(decide (i1<(b1.length:Int)))then
  au (idx a1 i1) fun e1=>
  au (idx b1 i1) fun e2=>
  au (vJ e1 e2) fun c1=>
  if c1 !=0 then
  some c1
  else
  Dp vJ a1 b1 dW (bF (i1+1))
 else
  if (a1.length:Int)==(b1.length:Int)then
  some 0
  else
  pI (decide ((a1.length:Int)<(b1.length:Int)))
def QZ(vJ:ah→ah→Option Int)(IB:List ah→List ah→Option Int)(a1 b1:List ah):Option Int:=
 Dp vJ a1 b1 BIG 0
mutual
def oP:Nat→ah→ah→Option Int
 | 0,_,_=>none
 | k+1,Bo,Bn=>LX (oP k) (JR k) Bo Bn
def JR:Nat→List ah→List ah→Option Int
 | 0,_,_=>none
 | k+1,Bo,Bn=>QZ (oP k) (JR k) Bo Bn
end
def JX(Bo Bn:ah):Option Int:=oP BIG Bo Bn
def GD(a1 b1:ah):Option Bool:=
 au (JX a1 b1) fun x1=>
 some (x1==0)
def B_(b1:Bool):Option ah:=
 some (ah.mk 1 b1 0 ([]:Str) [] [])
def Fz(s1 t1:Str):Nat→Int→Option Int
 | 0,_=>none
 | dW+1,i1=>
 if decide ((bF (i1+(t1.length:Int)))≤(s1.length:Int))then
  au (sl s1 i1 (bF (i1+(t1.length:Int)))) fun x1=>
  if x1==t1 then
  some i1
  else
  Fz s1 t1 dW (bF (i1+1))
 else
  some (-1)
def JL(s1 t1:Str)(aei:Int):Option Int:=
 Fz s1 t1 BIG aei
def xL(a1 b1:ah):Nat→Int→Option (ah × Int)
 | 0,_=>none
 | dW+1,i1=>
 if decide (i1<(a1.aO.length:Int))then
  au (idx a1.aO i1) fun e1=>
  au (GD e1 b1) fun x1=>
  if x1 then
  au (B_ true) fun x2=>
  some (x2,0)
  else
  xL a1 b1 dW (bF (i1+1))
 else
  au (B_ false) fun x3=>
  some (x3,0)
def NR(a1 b1:ah):Option (ah × Int):=
 if a1.kind==4 then
 xL a1 b1 BIG 0
 else
 if (b1.kind !=3)||((a1.kind !=3)&&(a1.kind !=5))then
  some ((ah.mk 0 false 0 ([]:Str) [] []),9)
 else
  if a1.kind==5 then
  fD (Yl a1 b1.bV) fun x4 ok1=>
  au (B_ ok1) fun x5=>
  some (x5,0)
  else
  au (JL a1.bV b1.bV 0) fun x6=>
  au (B_ (decide (0≤x6))) fun x7=>
  some (x7,0)
def Gg(BG:ah→Option Int)(v1:ah):Nat→Int→Int→Option Int
 | 0,_,_=>none
 | dW+1,n1,i1=>
 if decide (i1<(v1.aO.length:Int))then
  au (idx v1.aO i1) fun e1=>
  au (BG e1) fun x1=>
  Gg BG v1 dW (if n1<(bF (1+x1))then (bF (1+x1))else n1) (bF (i1+1))
 else
  some n1
def NY(BG:ah→Option Int)(v1:ah):Option Int:=
 if (v1.kind !=4)&&(v1.kind !=5)then
 some 1
 else
 Gg BG v1 BIG 2 0
def wo:Nat→ah→Option Int
 | 0,_=>none
 | k+1,nS=>NY (wo k) nS
def MJ(nS:ah):Option Int:=wo BIG nS
def AB(v1:ah):Option (ah × Int):=
 if (decide (v1.eB<(-9007199254740992)))||(decide (9007199254740992<v1.eB))then
 some ((ah.mk 0 false 0 ([]:Str) [] []),11)
 else
 if (decide (4096<(v1.bV.length:Int)))||(decide (1024<(v1.aO.length:Int)))then
  some ((ah.mk 0 false 0 ([]:Str) [] []),3)
 else
  au (MJ v1) fun x1=>
  if decide (16<x1)then
  some ((ah.mk 0 false 0 ([]:Str) [] []),13)
  else
  some (v1,0)
def yQ(a1 b1:ah):Nat→Str→Int→Option (ah × Int)
 | 0,_,_=>none
 | dW+1,s1,i1=>
 if decide (i1<(a1.aO.length:Int))then
  au (idx a1.aO i1) fun e1=>
  if e1.kind !=3 then
  some ((ah.mk 0 false 0 ([]:Str) [] []),9)
  else
  if decide (0<i1)then
   au (app s1 b1.bV) fun s2=>
   au (idx a1.aO i1) fun e2=>
   au (app s2 e2.bV) fun s3=>
   yQ a1 b1 dW s3 (bF (i1+1))
  else
   au (idx a1.aO i1) fun e3=>
   au (app s1 e3.bV) fun s4=>
   yQ a1 b1 dW s4 (bF (i1+1))
 else
  au (K5 s1) fun x1=>
  AB x1
def aae(a1 b1:ah):Option (ah × Int):=
 if (a1.kind !=4)||(b1.kind !=3)then
 some ((ah.mk 0 false 0 ([]:Str) [] []),9)
 else
 yQ a1 b1 BIG ([]:Str) 0
def Dj(s1 Gq:Str):Nat→List ah→Int→Int→Option (ah × Int)
 | 0,_,_,_=>none
 | dW+1,l1,aei,at2=>
 if decide (0≤at2)then
  au (sl s1 aei at2) fun x1=>
  au (K5 x1) fun x2=>
  au (app l1 [x2]) fun l2=>
  au (JL s1 Gq (bF (at2+(Gq.length:Int)))) fun at3=>
  Dj s1 Gq dW l2 (bF (at2+(Gq.length:Int))) at3
 else
  au (sl s1 aei (s1.length:Int)) fun x3=>
  au (K5 x3) fun x4=>
  au (app l1 [x4]) fun x5=>
  AB (ah.mk 4 false 0 ([]:Str) x5 [])
def K4(s1 Gq:Str):Option (ah × Int):=
 if Gq==([]:Str)then
 some ((ah.mk 0 false 0 ([]:Str) [] []),1)
 else
 au (JL s1 Gq 0) fun dP=>
 Dj s1 Gq BIG [] 0 dP
def H9(l:List aS):Bool:=
 match l.getLast? with
 | some p=>p.VG
 | none=>true
def H8(l:List aS):Str:=
 match l.getLast? with
 | some p=>p.text
 | none=>[]
def QO(l:List aS)(t:Str):List aS:=
 match l.getLast? with
 | some p=>l.dropLast++[aS.mk t p.VG p.expr]
 | none=>l
def JK(l1:List aS)(c1:UInt8):Option (List aS):=
 if l1.length≤wX then
  if ((l1.length:Int)==0)||H9 l1 then
   app l1 [(aS.mk [c1] false (ak.mk 0 ([]:Str) (ah.mk 0 false 0 ([]:Str) [] []) [] []))]
  else
   au (app (H8 l1) [c1]) fun t1=>
   some (QO l1 t1)
 else
  none
def w9(s1:Str):Nat→Int→Option Int
 | 0,_=>none
 | dW+1,at2=>
  au (
    if decide (at2<(s1.length:Int))then
     au (idx s1 at2) fun x1=>
     some ((x1.toNat:Int) !=34)
    else
     some false) fun b1=>
  if b1 then
   au (idx s1 at2) fun x2=>
   if (x2.toNat:Int)==92 then
    w9 s1 dW (bF ((bF (at2+1))+1))
   else
    w9 s1 dW (bF (at2+1))
  else
   some (bF (at2+1))
def Tn(s1:Str)(dP:Int):Option Int:=
 w9 s1 BIG (bF (dP+1))
def lI(s1:Str):Nat→Int→Int→Option Int
 | 0,_,_=>none
 | dW+1,at2,iV=>
  if decide (at2<(s1.length:Int))then
   au (idx s1 at2) fun x1=>
   if (x1.toNat:Int)==34 then
    au (Tn s1 at2) fun at3=>
    lI s1 dW at3 iV
   else
    if (x1.toNat:Int)==123 then
     lI s1 dW (bF (at2+1)) (bF (iV+1))
    else
     if (x1.toNat:Int)==125 then
      if iV==0 then
       some at2
      else
       lI s1 dW (bF (at2+1)) (bF (iV-1))
     else
      lI s1 dW (bF (at2+1)) iV
  else
   some (-1)
def QS(s1:Str)(dP:Int):Option Int:=
 lI s1 BIG dP 0
def u7(bU:Str):Nat→Int→Bool→Option Int
 | 0,_,_=>none
 | dW+1,at2,aa6=>
  au (
    if decide (at2<(bU.length:Int))then
     au (idx bU at2) fun x1=>
     some ((x1.toNat:Int) !=10)
    else
     some false) fun b1=>
  au (
    if b1 then
     au (
       if aa6 then
        some true
       else
        au (idx bU at2) fun x2=>
        some ((x2.toNat:Int)==32)) fun b3=>
     au (
       if b3 then
        some true
       else
        au (idx bU at2) fun x3=>
        some ((x3.toNat:Int)==9)) fun b4=>
     if b4 then
      some true
     else
      au (idx bU at2) fun x4=>
      some ((x4.toNat:Int)==35)
    else
     some false) fun b2=>
  if b2 then
   au (
     if aa6 then
      some true
     else
      au (idx bU at2) fun x5=>
      some ((x5.toNat:Int)==35)) fun b6=>
   u7 bU dW (bF (at2+1)) b6
  else
   some at2
def u_(bU:Str)(dP:Int):Option Int:=
 u7 bU BIG dP false
def Bw(bU:Str)(dP:Int):Nat→Int→Option Int
 | 0,_=>none
 | dW+1,n1=>
  au (
    if decide ((bF (dP+n1))<(bU.length:Int))then
     au (idx bU (bF (dP+n1))) fun x1=>
     qx x1
    else
     some false) fun b1=>
  if b1 then
   Bw bU dP dW (bF (n1+1))
  else
   some n1
def MH(bU:Str)(dP:Int):Option Int:=
 Bw bU dP BIG 0
def FE(bU:Str)(dP:Int):Nat→Int→Option Int
 | 0,_=>none
 | dW+1,n1=>
  au (
    if decide ((bF (dP+n1))<(bU.length:Int))then
     au (idx bU (bF (dP+n1))) fun x1=>
     au (AL x1) fun x2=>
     if x2 then
      some true
     else
      au (idx bU (bF (dP+n1))) fun x3=>
      qx x3
    else
     some false) fun b1=>
  if b1 then
   FE bU dP dW (bF (n1+1))
  else
   some n1
def NT(bU:Str)(dP:Int):Option Int:=
 FE bU dP BIG 0
def MG(bU:Str)(dP:Int):Option (aA × Int × Int):=
 au (MH bU dP) fun n1=>
 au (NT bU dP) fun x1=>
 au (
   if decide (n1<x1)then
    some true
   else
    if decide (1<n1)then
     au (idx bU dP) fun x2=>
     some ((x2.toNat:Int)==48)
    else
     some false) fun b1=>
 if b1 then
  some ((aA.mk 0 ([]:Str) 0),0,5)
 else
  au (sl bU dP (bF (dP+n1))) fun x3=>
  fD (Bz x3) fun x4 ok1=>
  if !ok1 then
   some ((aA.mk 0 ([]:Str) 0),0,2)
  else
   au (sl bU dP (bF (dP+n1))) fun x5=>
   some ((aA.mk 2 x5 0),n1,0)
def R3(c1:UInt8):Option Int:=
 au (qx c1) fun x1=>
 if x1 then
  some (bF ((c1.toNat:Int)-48))
 else
  if (decide (97≤(c1.toNat:Int)))&&(decide ((c1.toNat:Int)≤102))then
   some (bF ((c1.toNat:Int)-87))
  else
   if (decide (65≤(c1.toNat:Int)))&&(decide ((c1.toNat:Int)≤70))then
    some (bF ((c1.toNat:Int)-55))
   else
    some (-1)
def pG(bU:Str)(dP:Int):Nat→Int→Int→Option (UInt8 × Int × Int)
 | 0,_,_=>none
 | dW+1,n1,i1=>
  if decide (i1<(bF (dP+4)))then
   if decide ((bU.length:Int)≤i1)then
    some (0,0,4)
   else
    au (idx bU i1) fun x1=>
    au (R3 x1) fun x2=>
    if decide (x2<0)then
     some (0,0,5)
    else
     au (idx bU i1) fun x3=>
     au (R3 x3) fun x4=>
     pG bU dP dW (bF ((bF (16*n1))+x4)) (bF (i1+1))
  else
   some ((Ft.byteOf n1),4,0)
def JO(bU:Str)(dP:Int):Option (UInt8 × Int × Int):=
 pG bU dP BIG 0 (bF (dP+2))
def uq(bU:Str)(dP:Int):Option (UInt8 × Int × Int):=
 au (idx bU dP) fun x1=>
 if decide ((x1.toNat:Int)<32)then
  some (0,0,5)
 else
  au (idx bU dP) fun x2=>
  if (x2.toNat:Int) !=92 then
   au (idx bU dP) fun x3=>
   some (x3,1,0)
  else
   if decide ((bU.length:Int)≤(bF (dP+1)))then
    some (0,0,4)
   else
    au (idx bU (bF (dP+1))) fun x4=>
    if (x4.toNat:Int)==34 then
     au (idx bU (bF (dP+1))) fun x5=>
     some (x5,2,0)
    else
     if (x4.toNat:Int)==92 then
      au (idx bU (bF (dP+1))) fun x6=>
      some (x6,2,0)
     else
      if (x4.toNat:Int)==110 then
       some (10,2,0)
      else
       if (x4.toNat:Int)==116 then
        some (9,2,0)
       else
        if (x4.toNat:Int)==120 then
         JO bU dP
        else
         some (0,0,5)
def FH(bU:Str)(dP:Int):Nat→List UInt8→Int→Option (aA × Int × Int)
 | 0,_,_=>none
 | dW+1,b1,i1=>
  if decide (i1<(bU.length:Int))then
   au (idx bU i1) fun x1=>
   if (x1.toNat:Int)==34 then
    if decide (4096<(b1.length:Int))then
     some ((aA.mk 0 ([]:Str) 0),0,3)
    else
     some ((aA.mk 3 b1 0),(bF ((bF (i1+1))-dP)),0)
   else
    mq (uq bU i1) fun c1 n1 e1=>
    if e1 !=0 then
     some ((aA.mk 0 ([]:Str) 0),0,e1)
    else
     au (app b1 ([c1]:List UInt8)) fun b2=>
     FH bU dP dW b2 (bF (i1+n1))
  else
   some ((aA.mk 0 ([]:Str) 0),0,4)
def Tv(bU:Str)(dP:Int):Option (aA × Int × Int):=
 FH bU dP BIG [] (bF (dP+1))
def iJ(bU:Str)(dP:Int):Nat→Int→Option Int
 | 0,_=>none
 | kk2+1,i2=>
  if decide (i2<19)then
   au (idx bU dP) fun x3=>
   au (idx ([60,62,43,45,42,47,37,33,63,58,46,44,61,40,41,91,93,123,125]:Str) i2) fun x4=>
   if (x3.toNat:Int)==(x4.toNat:Int)then
    some 1
   else
    iJ bU dP kk2 (bF (i2+1))
  else
   some 0
def iq(bU:Str)(dP:Int):Nat→Int→Option Int
 | 0,_=>none
 | dW+1,i1=>
  if decide (i1<12)then
   au (
     if decide ((bF (dP+2))≤(bU.length:Int))then
      au (sl bU dP (bF (dP+2))) fun x1=>
      au (sl ([124,124,38,38,61,61,33,61,60,61,62,61]:Str) i1 (bF (i1+2))) fun x2=>
      some (x1==x2)
     else
      some false) fun b1=>
   if b1 then
    some 2
   else
    iq bU dP dW (bF (i1+2))
  else
   iJ bU dP BIG 0
def Ie(bU:Str)(dP:Int):Option Int:=
 iq bU dP BIG 0
def PD(bU:Str)(dP:Int):Option (aA × Int × Int):=
 au (idx bU dP) fun x1=>
 au (qx x1) fun x2=>
 if x2 then
  MG bU dP
 else
  au (idx bU dP) fun x6=>
  if (x6.toNat:Int)==34 then
   Tv bU dP
  else
   au (NT bU dP) fun n1=>
   if decide (0<n1)then
    if decide (64<n1)then
     some ((aA.mk 0 ([]:Str) 0),0,3)
    else
     au (sl bU dP (bF (dP+n1))) fun Fh=>
     some ((aA.mk 1 Fh 0),n1,0)
   else
    au (Ie bU dP) fun n2=>
    if n2==0 then
     some ((aA.mk 0 ([]:Str) 0),0,5)
    else
     au (sl bU dP (bF (dP+n2))) fun Jj=>
     some ((aA.mk 4 Jj 0),n2,0)
def yw(iV:Int)(t1:aA):Option Int:=
 if (t1.kind==4)&&((t1.text==([40]:Str))||(t1.text==([91]:Str)))then
  some (bF (iV+1))
 else
  if ((t1.kind==4)&&((t1.text==([41]:Str))||(t1.text==([93]:Str))))&&(decide (0<iV))then
   some (bF (iV-1))
  else
   some iV
def oO(bU:Str):Nat→List aA→Int→Int→Option (List aA × Int × Int)
 | 0,_,_,_=>none
 | dW+1,bP,iV,at2=>
  if decide (at2<(bU.length:Int))then
   au (idx bU at2) fun x1=>
   if (x1.toNat:Int) !=10 then
    mq (PD bU at2) fun x2 Ak e1=>
    if e1 !=0 then
     some ([],at2,e1)
    else
     au (
       if x2.kind !=5 then
        some true
       else
        if iV==0 then
         if (bP.length:Int)==0 then
          some true
         else
          au (idx bP (bF ((bP.length:Int)-1))) fun e2=>
          some (e2.kind !=5)
        else
         some false) fun b1=>
     if b1 then
      au (app bP [(aA.mk x2.kind x2.text at2)]) fun xk=>
      au (yw iV (aA.mk x2.kind x2.text at2)) fun aam=>
      au (u_ bU (bF (at2+Ak))) fun at3=>
      oO bU dW xk aam at3
     else
      au (yw iV (aA.mk x2.kind x2.text at2)) fun aqe=>
      au (u_ bU (bF (at2+Ak))) fun at4=>
      oO bU dW bP aqe at4
   else
    au (
      if (5:Int) !=5 then
       some true
      else
       if iV==0 then
        if (bP.length:Int)==0 then
         some true
        else
         au (idx bP (bF ((bP.length:Int)-1))) fun e3=>
         some (e3.kind !=5)
       else
        some false) fun b4=>
    if b4 then
     au (app bP [(aA.mk 5 ([]:Str) at2)]) fun afw=>
     au (yw iV (aA.mk 5 ([]:Str) at2)) fun aqd=>
     au (u_ bU (bF (at2+1))) fun at5=>
     oO bU dW afw aqd at5
    else
     au (yw iV (aA.mk 5 ([]:Str) at2)) fun aqc=>
     au (u_ bU (bF (at2+1))) fun at6=>
     oO bU dW bP aqc at6
  else
   some (bP,0,0)
def AP(bU:Str):Option (List aA × Int × Int):=
 if decide (65536<(bU.length:Int))then
  some ([],0,3)
 else
  au (u_ bU 0) fun dP=>
  oO bU BIG [] 0 dP
def uD(iX:List aA)(dP:Int)(s1:Str):Option Bool:=
 au (
   if decide (dP<(iX.length:Int))then
    au (idx iX dP) fun e1=>
    some (e1.kind==4)
   else
    some false) fun b1=>
 if b1 then
  au (idx iX dP) fun e2=>
  some (e2.text==s1)
 else
  some false
def Ca(v1:ah):Option ak:=
 some (ak.mk 1 ([]:Str) v1 [] [])
def Yk(t1:aA):Option Bool:=
 au (
   if t1.kind==1 then
    Gy t1.text
   else
    some false) fun b1=>
 some (b1||((t1.kind==3)&&(decide ((t1.text.length:Int)≤4096))))
def oN(iX:List aA)(dP:Int):Option Int:=
 if decide ((iX.length:Int)≤dP)then
  some 4
 else
  some 5
def I8(dO:List aA→Int→Option (ak × Int × Int))(gN:List aA→Int→Int→Option (ak × Int × Int))(oG qM sS sQ:List aA→Int→Option (ak × Int × Int))(oU:List aA→Int→Str→Bool→Option (List ak × List Str × Int × Int))(mh:List aA→Int→Option (ak × Int × Int))(iX:List aA)(dP:Int):Option (ak × Int × Int):=
 mq (gN iX dP 2) fun x1 at2 e1=>
 au (
   if e1 !=0 then
    some true
   else
    au (uD iX at2 ([63]:Str)) fun x2=>
    some (!x2)) fun b1=>
 if b1 then
  some (x1,at2,e1)
 else
  mq (dO iX (bF (at2+1))) fun x3 at3 e2=>
  if e2 !=0 then
   some ((ak.mk 0 ([]:Str) (ah.mk 0 false 0 ([]:Str) [] []) [] []),at3,e2)
  else
   au (uD iX at3 ([58]:Str)) fun x4=>
   if !x4 then
    au (oN iX at3) fun x5=>
    some ((ak.mk 0 ([]:Str) (ah.mk 0 false 0 ([]:Str) [] []) [] []),at3,x5)
   else
    mq (dO iX (bF (at3+1))) fun x6 at4 e3=>
    some ((ak.mk 8 ([]:Str) (ah.mk 0 false 0 ([]:Str) [] []) [x1,x3,x6] []),at4,e3)
def mQ(gN:List aA→Int→Int→Option (ak × Int × Int))(iX:List aA)(yP:Int):Nat→Int→Int→Int→ak→Option (ak × Int × Int)
 | 0,_,_,_,_=>none
 | dW+1,at3,e2,n1,amS=>
  au (
    if (e2==0)&&(decide (at3<(iX.length:Int)))then
     au (idx iX at3) fun e3=>
     some (e3.kind==4)
    else
     some false) fun b1=>
  au (
    if b1 then
     au (idx iX at3) fun e4=>
     au (Dm e4.text) fun x5=>
     some (x5==yP)
    else
     some false) fun b2=>
  if b2&&((n1==0)||(yP !=4))then
   mq (gN iX (bF (at3+1)) (bF (yP+1))) fun x6 kV f1=>
   au (idx iX at3) fun e5=>
   mQ gN iX yP dW kV f1 (bF (n1+1)) (ak.mk 7 e5.text (ah.mk 0 false 0 ([]:Str) [] []) [amS,x6] [])
  else
   some (amS,at3,e2)
def CP(dO:List aA→Int→Option (ak × Int × Int))(gN:List aA→Int→Int→Option (ak × Int × Int))(oG qM sS sQ:List aA→Int→Option (ak × Int × Int))(oU:List aA→Int→Str→Bool→Option (List ak × List Str × Int × Int))(mh:List aA→Int→Option (ak × Int × Int))(iX:List aA)(dP yP:Int):Option (ak × Int × Int):=
 if yP==7 then
  oG iX dP
 else
  mq (gN iX dP (bF (yP+1))) fun x4 at2 e1=>
  mQ gN iX yP BIG at2 e1 0 x4
def QT(dO:List aA→Int→Option (ak × Int × Int))(gN:List aA→Int→Int→Option (ak × Int × Int))(oG qM sS sQ:List aA→Int→Option (ak × Int × Int))(oU:List aA→Int→Str→Bool→Option (List ak × List Str × Int × Int))(mh:List aA→Int→Option (ak × Int × Int))(iX:List aA)(dP:Int):Option (ak × Int × Int):=
 au (uD iX dP ([33]:Str)) fun x1=>
 au (
   if !x1 then
    au (uD iX dP ([45]:Str)) fun x2=>
    some (!x2)
   else
    some false) fun b1=>
 if b1 then
  qM iX dP
 else
  mq (oG iX (bF (dP+1))) fun x6 kV e1=>
  au (idx iX dP) fun e2=>
  some ((ak.mk 6 e2.text (ah.mk 0 false 0 ([]:Str) [] []) [x6] []),kV,e1)
def tF(dO:List aA→Int→Option (ak × Int × Int))(iX:List aA)(e1:Int):Nat→Int→ak→Option (ak × Int × Int)
 | 0,_,_=>none
 | dW+1,at3,x2=>
  au (
    if e1==0 then
     au (uD iX at3 ([46]:Str)) fun x3=>
     if x3 then
      some true
     else
      uD iX at3 ([91]:Str)
    else
     some false) fun b1=>
  if b1 then
   au (uD iX at3 ([46]:Str)) fun x5=>
   if x5 then
    au (
      if decide ((iX.length:Int)≤(bF (at3+1)))then
       some true
      else
       au (idx iX (bF (at3+1))) fun e2=>
       some (e2.kind !=1)) fun b3=>
    au (
      if b3 then
       some true
      else
       au (idx iX (bF (at3+1))) fun e3=>
       au (qw e3.text) fun x6=>
       some (!x6)) fun b4=>
    if b4 then
     au (oN iX (bF (at3+1))) fun x7=>
     some ((ak.mk 0 ([]:Str) (ah.mk 0 false 0 ([]:Str) [] []) [] []),(bF (at3+1)),x7)
    else
     au (idx iX (bF (at3+1))) fun e4=>
     tF dO iX e1 dW (bF ((bF (at3+1))+1)) (ak.mk 3 e4.text (ah.mk 0 false 0 ([]:Str) [] []) [x2] [])
   else
    mq (dO iX (bF (at3+1))) fun x8 kV f1=>
    if f1 !=0 then
     some ((ak.mk 0 ([]:Str) (ah.mk 0 false 0 ([]:Str) [] []) [] []),kV,f1)
    else
     au (uD iX kV ([93]:Str)) fun x9=>
     if !x9 then
      au (oN iX kV) fun Fh=>
      some ((ak.mk 0 ([]:Str) (ah.mk 0 false 0 ([]:Str) [] []) [] []),kV,Fh)
     else
      tF dO iX e1 dW (bF (kV+1)) (ak.mk 4 ([]:Str) (ah.mk 0 false 0 ([]:Str) [] []) [x2,x8] [])
  else
   some (x2,at3,e1)
def QV(dO:List aA→Int→Option (ak × Int × Int))(gN:List aA→Int→Int→Option (ak × Int × Int))(oG qM sS sQ:List aA→Int→Option (ak × Int × Int))(oU:List aA→Int→Str→Bool→Option (List ak × List Str × Int × Int))(mh:List aA→Int→Option (ak × Int × Int))(iX:List aA)(dP:Int):Option (ak × Int × Int):=
 mq (sS iX dP) fun x1 at2 e1=>
 tF dO iX e1 BIG at2 x1
def Tq(dO:List aA→Int→Option (ak × Int × Int))(gN:List aA→Int→Int→Option (ak × Int × Int))(oG qM sS sQ:List aA→Int→Option (ak × Int × Int))(oU:List aA→Int→Str→Bool→Option (List ak × List Str × Int × Int))(mh:List aA→Int→Option (ak × Int × Int))(iX:List aA)(dP:Int):Option (ak × Int × Int):=
 if decide ((iX.length:Int)≤dP)then
  some ((ak.mk 0 ([]:Str) (ah.mk 0 false 0 ([]:Str) [] []) [] []),dP,4)
 else
  au (idx iX dP) fun e1=>
  if e1.kind==2 then
   fD (Bz e1.text) fun n1 ok1=>
   if ok1 then
    au (Ca (ah.mk 2 false n1 ([]:Str) [] [])) fun x1=>
    some (x1,(bF (dP+1)),0)
   else
    some ((ak.mk 0 ([]:Str) (ah.mk 0 false 0 ([]:Str) [] []) [] []),dP,5)
  else
   if e1.kind==3 then
    if decide ((e1.text.length:Int)≤4096)then
     au (Ca (ah.mk 3 false 0 e1.text [] [])) fun x2=>
     some (x2,(bF (dP+1)),0)
    else
     some ((ak.mk 0 ([]:Str) (ah.mk 0 false 0 ([]:Str) [] []) [] []),dP,5)
   else
    if e1.kind==1 then
     sQ iX dP
    else
     if e1.kind==4 then
      mh iX dP
     else
      some ((ak.mk 0 ([]:Str) (ah.mk 0 false 0 ([]:Str) [] []) [] []),dP,5)
def MC(dO:List aA→Int→Option (ak × Int × Int))(gN:List aA→Int→Int→Option (ak × Int × Int))(oG qM sS sQ:List aA→Int→Option (ak × Int × Int))(oU:List aA→Int→Str→Bool→Option (List ak × List Str × Int × Int))(mh:List aA→Int→Option (ak × Int × Int))(iX:List aA)(dP:Int):Option (ak × Int × Int):=
 au (idx iX dP) fun e1=>
 if e1.text==([110,117,108,108]:Str)then
  au (Ca (ah.mk 0 false 0 ([]:Str) [] [])) fun x1=>
  some (x1,(bF (dP+1)),0)
 else
  if e1.text==([116,114,117,101]:Str)then
   au (Ca (ah.mk 1 (e1.text==([116,114,117,101]:Str)) 0 ([]:Str) [] [])) fun x2=>
   some (x2,(bF (dP+1)),0)
  else
   if e1.text==([102,97,108,115,101]:Str)then
    au (Ca (ah.mk 1 (e1.text==([116,114,117,101]:Str)) 0 ([]:Str) [] [])) fun x3=>
    some (x3,(bF (dP+1)),0)
   else
    au (qw e1.text) fun x4=>
    if !x4 then
     some ((ak.mk 0 ([]:Str) (ah.mk 0 false 0 ([]:Str) [] []) [] []),dP,5)
    else
     au (uD iX (bF (dP+1)) ([40]:Str)) fun x5=>
     if !x5 then
      some ((ak.mk 2 e1.text (ah.mk 0 false 0 ([]:Str) [] []) [] []),(bF (dP+1)),0)
     else
      Me (oU iX (bF (dP+2)) ([41]:Str) false) fun l1 x6 kV e2=>
      some ((ak.mk 5 e1.text (ah.mk 0 false 0 ([]:Str) [] []) l1 []),kV,e2)
def u6(dO:List aA→Int→Option (ak × Int × Int))(iX:List aA)(E9:Str)(Ky:Bool):Nat→Int→List ak→List Str→Option (List ak × List Str × Int × Int)
 | 0,_,_,_=>none
 | dW+1,at2,l1,ER=>
  if Ky then
   au (
     if decide ((iX.length:Int)≤at2)then
      some true
     else
      au (idx iX at2) fun e1=>
      au (Yk e1) fun x2=>
      some (!x2)) fun b1=>
   if b1 then
    au (oN iX at2) fun x3=>
    some ([],[],at2,x3)
   else
    au (idx iX at2) fun e2=>
    au (app ER ([e2.text]:List Str)) fun amT=>
    au (uD iX (bF (at2+1)) ([58]:Str)) fun x4=>
    if !x4 then
     au (oN iX (bF (at2+1))) fun x5=>
     some ([],[],(bF (at2+1)),x5)
    else
     mq (dO iX (bF ((bF (at2+1))+1))) fun x6 kV e3=>
     if e3 !=0 then
      some ([],[],kV,e3)
     else
      au (app l1 [x6]) fun l2=>
      au (uD iX kV E9) fun x7=>
      if x7 then
       some (l2,amT,(bF (kV+1)),0)
      else
       au (uD iX kV ([44]:Str)) fun x8=>
       if !x8 then
        au (oN iX kV) fun x9=>
        some ([],[],kV,x9)
       else
        u6 dO iX E9 Ky dW (bF (kV+1)) l2 amT
  else
   mq (dO iX at2) fun Fh GK e4=>
   if e4 !=0 then
    some ([],[],GK,e4)
   else
    au (app l1 [Fh]) fun l3=>
    au (uD iX GK E9) fun Jj=>
    if Jj then
     some (l3,ER,(bF (GK+1)),0)
    else
     au (uD iX GK ([44]:Str)) fun LA=>
     if !LA then
      au (oN iX GK) fun Ml=>
      some ([],[],GK,Ml)
     else
      u6 dO iX E9 Ky dW (bF (GK+1)) l3 ER
def ME(dO:List aA→Int→Option (ak × Int × Int))(gN:List aA→Int→Int→Option (ak × Int × Int))(oG qM sS sQ:List aA→Int→Option (ak × Int × Int))(oU:List aA→Int→Str→Bool→Option (List ak × List Str × Int × Int))(mh:List aA→Int→Option (ak × Int × Int))(iX:List aA)(dP:Int)(E9:Str)(Ky:Bool):Option (List ak × List Str × Int × Int):=
 au (uD iX dP E9) fun x1=>
 if x1 then
  some ([],[],(bF (dP+1)),0)
 else
  u6 dO iX E9 Ky BIG dP [] []
def JN(dO:List aA→Int→Option (ak × Int × Int))(gN:List aA→Int→Int→Option (ak × Int × Int))(oG qM sS sQ:List aA→Int→Option (ak × Int × Int))(oU:List aA→Int→Str→Bool→Option (List ak × List Str × Int × Int))(mh:List aA→Int→Option (ak × Int × Int))(iX:List aA)(dP:Int):Option (ak × Int × Int):=
 au (idx iX dP) fun e1=>
 if e1.text==([40]:Str)then
  mq (dO iX (bF (dP+1))) fun x1 kV e2=>
  au (
    if e2==0 then
     au (uD iX kV ([41]:Str)) fun x2=>
     some (!x2)
    else
     some false) fun b1=>
  if b1 then
   au (oN iX kV) fun e3=>
   if e3 !=0 then
    some ((ak.mk 0 ([]:Str) (ah.mk 0 false 0 ([]:Str) [] []) [] []),kV,e3)
   else
    some (x1,(bF (kV+1)),0)
  else
   if e2 !=0 then
    some ((ak.mk 0 ([]:Str) (ah.mk 0 false 0 ([]:Str) [] []) [] []),kV,e2)
   else
    some (x1,(bF (kV+1)),0)
 else
  if e1.text==([91]:Str)then
   Me (oU iX (bF (dP+1)) ([93]:Str) false) fun l1 x3 GK e4=>
   some ((ak.mk 9 ([]:Str) (ah.mk 0 false 0 ([]:Str) [] []) l1 []),GK,e4)
  else
   if e1.text==([123]:Str)then
    Me (oU iX (bF (dP+1)) ([125]:Str) true) fun l2 ER aqi e5=>
    some ((ak.mk 10 ([]:Str) (ah.mk 0 false 0 ([]:Str) [] []) l2 ER),aqi,e5)
   else
    some ((ak.mk 0 ([]:Str) (ah.mk 0 false 0 ([]:Str) [] []) [] []),dP,5)
mutual
def dM:Nat→List aA→Int→Option (ak × Int × Int)
 | 0,_,_=>none
 | k+1,JB,JC=>I8 (dM k) (eH k) (kE k) (l8 k) (nU k) (pF k) (jC k) (lJ k) JB JC
def eH:Nat→List aA→Int→Int→Option (ak × Int × Int)
 | 0,_,_,_=>none
 | k+1,JB,JC,abP=>CP (dM k) (eH k) (kE k) (l8 k) (nU k) (pF k) (jC k) (lJ k) JB JC abP
def kE:Nat→List aA→Int→Option (ak × Int × Int)
 | 0,_,_=>none
 | k+1,JB,JC=>QT (dM k) (eH k) (kE k) (l8 k) (nU k) (pF k) (jC k) (lJ k) JB JC
def l8:Nat→List aA→Int→Option (ak × Int × Int)
 | 0,_,_=>none
 | k+1,JB,JC=>QV (dM k) (eH k) (kE k) (l8 k) (nU k) (pF k) (jC k) (lJ k) JB JC
def nU:Nat→List aA→Int→Option (ak × Int × Int)
 | 0,_,_=>none
 | k+1,JB,JC=>Tq (dM k) (eH k) (kE k) (l8 k) (nU k) (pF k) (jC k) (lJ k) JB JC
def pF:Nat→List aA→Int→Option (ak × Int × Int)
 | 0,_,_=>none
 | k+1,JB,JC=>MC (dM k) (eH k) (kE k) (l8 k) (nU k) (pF k) (jC k) (lJ k) JB JC
def jC:Nat→List aA→Int→Str→Bool→Option (List ak × List Str × Int × Int)
 | 0,_,_,_,_=>none
 | k+1,JB,JC,ae2,ae1=>ME (dM k) (eH k) (kE k) (l8 k) (nU k) (pF k) (jC k) (lJ k) JB JC ae2 ae1
def lJ:Nat→List aA→Int→Option (ak × Int × Int)
 | 0,_,_=>none
 | k+1,JB,JC=>JN (dM k) (eH k) (kE k) (l8 k) (nU k) (pF k) (jC k) (lJ k) JB JC
end
def LV(JB:List aA)(JC:Int):Option (ak × Int × Int):=dM BIG JB JC
def Tt(iX:List aA):Option (ak × Int × Int):=
 mq (LV iX 0) fun x1 dP e1=>
 if e1 !=0 then
  some ((ak.mk 0 ([]:Str) (ah.mk 0 false 0 ([]:Str) [] []) [] []),dP,e1)
 else
  au (K7 x1) fun f1=>
  if f1 !=0 then
   some ((ak.mk 0 ([]:Str) (ah.mk 0 false 0 ([]:Str) [] []) [] []),0,f1)
  else
   some (x1,dP,0)
def Py(bU:Str):Option (ak × Int × Int):=
 mq (AP bU) fun iX dP e1=>
 if e1 !=0 then
  some ((ak.mk 0 ([]:Str) (ah.mk 0 false 0 ([]:Str) [] []) [] []),dP,e1)
 else
  mq (Tt iX) fun x1 n1 e2=>
  if (e2==0)&&(n1==(iX.length:Int))then
   some (x1,0,0)
  else
   if e2==0 then
    if decide (n1<(iX.length:Int))then
     au (idx iX n1) fun e3=>
     some ((ak.mk 0 ([]:Str) (ah.mk 0 false 0 ([]:Str) [] []) [] []),e3.at_,5)
    else
     some ((ak.mk 0 ([]:Str) (ah.mk 0 false 0 ([]:Str) [] []) [] []),(bU.length:Int),5)
   else
    if decide (n1<(iX.length:Int))then
     au (idx iX n1) fun e4=>
     some ((ak.mk 0 ([]:Str) (ah.mk 0 false 0 ([]:Str) [] []) [] []),e4.at_,e2)
    else
     some ((ak.mk 0 ([]:Str) (ah.mk 0 false 0 ([]:Str) [] []) [] []),(bU.length:Int),e2)
def tu(s1:Str):Nat→List aS→Int→Option (List aS × Int × Int)
 | 0,_,_=>none
 | dW+1,l1,dP=>
  if decide (dP<(s1.length:Int))then
   au (idx s1 dP) fun x1=>
   au (
     if ((x1.toNat:Int) !=36)||(decide ((s1.length:Int)≤(bF (dP+1))))then
      some true
     else
      au (idx s1 (bF (dP+1))) fun x2=>
      if (x2.toNat:Int) !=36 then
       au (idx s1 (bF (dP+1))) fun x3=>
       some ((x3.toNat:Int) !=123)
      else
       some false) fun b1=>
   if b1 then
    au (idx s1 dP) fun c1=>
    au (JK l1 c1) fun l2=>
    tu s1 dW l2 (bF (dP+1))
   else
    au (idx s1 (bF (dP+1))) fun x4=>
    if (x4.toNat:Int)==36 then
     au (JK l1 36) fun l2=>
     tu s1 dW l2 (bF (dP+2))
    else
     au (QS s1 (bF (dP+2))) fun uP=>
     if decide (uP<0)then
      some ([],dP,4)
     else
      au (sl s1 (bF (dP+2)) uP) fun x5=>
      mq (Py x5) fun x6 Ak e1=>
      if e1 !=0 then
       some ([],(bF ((bF (dP+2))+Ak)),e1)
      else
       au (app l1 [(aS.mk ([]:Str) true x6)]) fun l2=>
       tu s1 dW l2 (bF (uP+1))
  else
   some (l1,0,0)
def W_(s1:Str):Option (List aS × Int × Int):=
 if decide (4096<(s1.length:Int))then
  some ([],0,3)
 else
  tu s1 BIG [] 0
def MB(aaJ:ay→Option Bool)(t1:ay):Option Bool:=
 if t1.kind !=0 then
 if (t1.elem.length:Int)==0 then
  some true
 else
  au (idx t1.elem 0) fun e1=>
  aaJ e1
 else
 some false
def EF:Nat→ay→Option Bool
 | 0,_=>none
 | k+1,Gd=>MB (EF k) Gd
def aaf(Gd:ay):Option Bool:=EF BIG Gd
end Go.Ft
