/- Proved here: nothing: further functional texts, as our program wrote them. -/
import Derived.Test.YtchmdnpcppkdpaaGreatDoorPdFt1
set_option linter.unusedVariables false
set_option linter.unusedSimpArgs false
set_option linter.defProp false
set_option linter.unusedSectionVars false
namespace Go.Ft
open Go
structure ni where
 kind:Int
 elem:List ni
def EK(Bq:au→Option Int)(e1:au):Nat→Int→Int→Option Int
 | 0,_,_=>none
 | dG+1,n1,i1=>
 if decide (i1<(e1.args.length:Int))then
  av (idx e1.args i1) fun e2=>
  av (Bq e2) fun x1=>
  EK Bq e1 dG (bq (n1+x1)) (bq (i1+1))
 else
  some n1
def NC(Bq:au→Option Int)(e1:au):Option Int:=
 EK Bq e1 BIG 1 0
def wT:Nat→au→Option Int
 | 0,_=>none
 | k+1,oG=>NC (wT k) oG
def Mg(oG:au):Option Int:=wT BIG oG
def CX(Di:Int):Option Str:=
 if (decide (Di<0))||(decide (8≤Di))then
 some ([]:Str)
 else
 idx ([([97,110,121]:Str),([110,117,108,108]:Str),([98,111,111,108]:Str),([105,110,116]:Str),([115,116,114,105,110,103]:Str),([108,105,115,116]:Str),([109,97,112]:Str),([110,101,118,101,114]:Str)]:List Str) Di
def rC(Di:Int):Option Bool:=
 some ((Di==5)||(Di==6))
def mI:Nat→Int→ni→Option Int
 | 0,_,_=>none
 | dG+1,bN,t2=>
 if decide (16<bN)then
  some 13
 else
  av (CX t2.kind) fun x1=>
  av (
   if x1==([]:Str)then
   some true
   else
   av (rC t2.kind) fun x2=>
   some (x2&&((t2.elem.length:Int) !=1))) fun b1=>
  av (
   if b1 then
   some true
   else
   av (rC t2.kind) fun x3=>
   some ((!x3)&&((t2.elem.length:Int) !=0))) fun b2=>
  if b2 then
  some 1
  else
  av (rC t2.kind) fun x4=>
  if !x4 then
   some 0
  else
   av (idx t2.elem 0) fun e1=>
   mI dG (bq (bN+1)) e1
def AJ(t1:ni):Option Int:=
 mI BIG 1 t1
def EM(c1:UInt8):Option Bool:=
 some ((((decide (97≤(c1.toNat:Int)))&&(decide ((c1.toNat:Int)≤122)))||((decide (65≤(c1.toNat:Int)))&&(decide ((c1.toNat:Int)≤90))))||((c1.toNat:Int)==95))
def rD(c1:UInt8):Option Bool:=
 some ((decide (48≤(c1.toNat:Int)))&&(decide ((c1.toNat:Int)≤57)))
def Gm(s1:Str):Nat→Int→Option Bool
 | 0,_=>none
 | dG+1,i1=>
 if decide (i1<(s1.length:Int))then
  av (idx s1 i1) fun x1=>
  av (EM x1) fun x2=>
  av (
   if !x2 then
   if i1==0 then
    some true
   else
    av (idx s1 i1) fun x3=>
    av (rD x3) fun x4=>
    some (!x4)
   else
   some false) fun b1=>
  if b1 then
  some false
  else
  Gm s1 dG (bq (i1+1))
 else
  some ((decide (1≤(s1.length:Int)))&&(decide ((s1.length:Int)≤64)))
def KO(s1:Str):Option Bool:=
 Gm s1 BIG 0
def uI(s1:Str):Option Bool:=
 av (KO s1) fun x1=>
 some (((x1&&(!(s1==([116,114,117,101]:Str))))&&(!(s1==([102,97,108,115,101]:Str))))&&(!(s1==([110,117,108,108]:Str))))
def TJ(Di:Int):Option Bool:=
 some ((Di==5)||(Di==6))
def ND(Vo:ni→Int→Option Int)(t1:ni)(bN:Int):Option Int:=
 if decide (16<bN)then
 some 13
 else
 if (decide (t1.kind<0))||(decide (7<t1.kind))then
  some 1
 else
  av (TJ t1.kind) fun x1=>
  if !x1 then
  if decide (0<(t1.elem.length:Int))then
   some 1
  else
   some 0
  else
  if (t1.elem.length:Int) !=1 then
   some 1
  else
   av (idx t1.elem 0) fun e1=>
   Vo e1 (bq (bN+1))
def Da:Nat→ni→Int→Option Int
 | 0,_,_=>none
 | k+1,ut1,jo=>ND (Da k) ut1 jo
def abW(ut1:ni)(jo:Int):Option Int:=Da BIG ut1 jo
def Mi(t1:ni):Option Int:=
 abW t1 1
def Md(e1:au):Option Bool:=
 if e1.kind==1 then
 some ((e1.args.length:Int)==0)
 else
 if e1.kind==2 then
  some ((e1.args.length:Int)==0)
 else
  if e1.kind==3 then
  some ((e1.args.length:Int)==1)
  else
  if e1.kind==6 then
   some ((e1.args.length:Int)==1)
  else
   if e1.kind==4 then
   some ((e1.args.length:Int)==2)
   else
   if e1.kind==7 then
    some ((e1.args.length:Int)==2)
   else
    if e1.kind==8 then
    some ((e1.args.length:Int)==3)
    else
    some (((e1.kind==5)||(e1.kind==9))||(e1.kind==10))
def A8(op1:Str):Option Int:=
 if op1==([124,124]:Str)then
 some 2
 else
 if op1==([38,38]:Str)then
  some 3
 else
  if op1==([61,61]:Str)then
  some 4
  else
  if op1==([33,61]:Str)then
   some 4
  else
   if op1==([60]:Str)then
   some 4
   else
   if op1==([60,61]:Str)then
    some 4
   else
    if op1==([62]:Str)then
    some 4
    else
    if op1==([62,61]:Str)then
     some 4
    else
     if op1==([43]:Str)then
     some 5
     else
     if op1==([45]:Str)then
      some 5
     else
      if op1==([42]:Str)then
      some 6
      else
      if op1==([47]:Str)then
       some 6
      else
       if op1==([37]:Str)then
       some 6
       else
       some 0
def Mc(e1:au):Option Bool:=
 if e1.kind==2 then
 uI e1.name
 else
 if e1.kind==3 then
  uI e1.name
 else
  if e1.kind==5 then
  uI e1.name
  else
  if e1.kind==6 then
   some ((e1.name==([33]:Str))||(e1.name==([45]:Str)))
  else
   if e1.kind==7 then
   av (A8 e1.name) fun x4=>
   some (decide (0<x4))
   else
   some (e1.name==([]:Str))
def Gq(tN:ah→ah→Option Bool)(a1 b1:ah):Nat→Int→Option Bool
 | 0,_=>none
 | Ea+1,i2=>
 if decide (i2<(a1.aN.length:Int))then
  av (idx a1.aN i2) fun e3=>
  av (idx b1.aN i2) fun e4=>
  av (tN e3 e4) fun x1=>
  if !x1 then
  some false
  else
  Gq tN a1 b1 Ea (bq (i2+1))
 else
  some true
def Gs(tN:ah→ah→Option Bool)(a1 b1:ah):Nat→Int→Option Bool
 | 0,_=>none
 | dG+1,i1=>
 if decide (i1<(a1.keys.length:Int))then
  av (idx a1.keys i1) fun e1=>
  av (idx b1.keys i1) fun e2=>
  if !(e1==e2)then
  some false
  else
  Gs tN a1 b1 dG (bq (i1+1))
 else
  Gq tN a1 b1 BIG 0
def PN(tN:ah→ah→Option Bool)(a1 b1:ah):Option Bool:=
 if (((((a1.kind !=b1.kind)||(!(a1.dR==b1.dR)))||(a1.dS !=b1.dS))||(!(a1.bR==b1.bR)))||((a1.aN.length:Int) !=(b1.aN.length:Int)))||((a1.keys.length:Int) !=(b1.keys.length:Int))then
 some false
 else
 Gs tN a1 b1 BIG 0
def JH:Nat→ah→ah→Option Bool
 | 0,_,_=>none
 | k+1,RD,RB=>PN (JH k) RD RB
def PO(RD RB:ah):Option Bool:=JH BIG RD RB
def zB(e1:au):Nat→Int→Option Bool
 | 0,_=>none
 | dG+1,i1=>
 if decide (i1<(e1.keys.length:Int))then
  av (idx e1.keys i1) fun e2=>
  av (
   if decide ((e2.length:Int)<1)then
   some true
   else
   av (idx e1.keys i1) fun e3=>
   some (decide (64<(e3.length:Int)))) fun b4=>
  if b4 then
  some false
  else
  zB e1 dG (bq (i1+1))
 else
  some ((e1.keys.length:Int)==(e1.args.length:Int))
def JE(e1:au):Option Bool:=
 av (Md e1) fun x1=>
 av (
  if !x1 then
  some true
  else
  av (Mc e1) fun x2=>
  some (!x2)) fun b1=>
 av (
  if b1 then
  some true
  else
  if e1.kind !=1 then
   av (PO e1.value (ah.mk 0 false 0 ([]:Str) [] [])) fun x3=>
   some (!x3)
  else
   some false) fun b2=>
 if b2 then
 some false
 else
 if e1.kind !=10 then
  some ((e1.keys.length:Int)==0)
 else
  zB e1 BIG 0
def Mj(v1:ah):Option Bool:=
 if ((v1.dR&&(v1.kind !=1))||((v1.dS !=0)&&(v1.kind !=2)))||((!(v1.bR==([]:Str)))&&(v1.kind !=3))then
 some false
 else
 if ((decide (0<(v1.aN.length:Int)))&&(v1.kind !=4))&&(v1.kind !=5)then
  some false
 else
  some (((v1.keys.length:Int)==0)||(v1.kind==5))
def UY(s1:Str):Option Bool:=
 some ((decide (1≤(s1.length:Int)))&&(decide ((s1.length:Int)≤64)))
def yS(al9 ae2:Bool):Option Int:=
 if al9 then
 some (-1)
 else
 if ae2 then
  some 1
 else
  some 0
def Ip(c1:UInt8):Option Bool:=
 some ((decide (48≤(c1.toNat:Int)))&&(decide ((c1.toNat:Int)≤57)))
def JJ(s1:Str):Nat→Int→Option Int
 | 0,_=>none
 | dG+1,at2=>
 av (
  if decide (at2<(s1.length:Int))then
   av (idx s1 at2) fun x1=>
   Ip x1
  else
   some false) fun b1=>
 if b1 then
  JJ s1 dG (bq (at2+1))
 else
  some at2
def U0(s1:Str)(cZ:Int):Option Int:=
 JJ s1 BIG cZ
def Ba(s1:Str):Nat→Int→Option Str
 | 0,_=>none
 | dG+1,i1=>
 av (
  if decide (i1<(s1.length:Int))then
   av (idx s1 i1) fun x1=>
   some ((x1.toNat:Int)==48)
  else
   some false) fun b1=>
 if b1 then
  Ba s1 dG (bq (i1+1))
 else
  sl s1 i1 (s1.length:Int)
def Io(s1:Str):Option Str:=
 Ba s1 BIG 0
def PS(a1 b1:Str):Option Int:=
 av (Io a1) fun x1=>
 av (Io b1) fun y1=>
 if (x1.length:Int) !=(y1.length:Int)then
 yS (decide ((x1.length:Int)<(y1.length:Int))) (decide ((y1.length:Int)<(x1.length:Int)))
 else
 if !(x1==y1)then
  yS (Go.Op.bytesLess x1 y1) (!(Go.Op.bytesLess x1 y1||x1==y1))
 else
  yS (decide ((a1.length:Int)<(b1.length:Int))) (decide ((b1.length:Int)<(a1.length:Int)))
def p8(a1 b1:Str):Nat→Int→Int→Option Int
 | 0,_,_=>none
 | dG+1,i1,CR=>
 if (decide (i1<(a1.length:Int)))&&(decide (CR<(b1.length:Int)))then
  av (idx a1 i1) fun x1=>
  av (idx b1 CR) fun x2=>
  av (idx a1 i1) fun x3=>
  av (idx b1 CR) fun x4=>
  av (yS (decide ((x1.toNat:Int)<(x2.toNat:Int))) (decide ((x4.toNat:Int)<(x3.toNat:Int)))) fun c1=>
  av (idx a1 i1) fun x5=>
  av (Ip x5) fun x6=>
  av (
   if x6 then
   av (idx b1 CR) fun x7=>
   Ip x7
   else
   some false) fun b2=>
  if b2 then
  av (U0 a1 i1) fun m1=>
  av (U0 b1 CR) fun n1=>
  av (sl a1 i1 m1) fun x9=>
  av (sl b1 CR n1) fun Kn=>
  av (PS x9 Kn) fun c2=>
  if c2 !=0 then
   some c2
  else
   p8 a1 b1 dG m1 n1
  else
  if c1 !=0 then
   some c1
  else
   p8 a1 b1 dG (bq (i1+1)) (bq (CR+1))
 else
  yS (decide (CR<(b1.length:Int))) (decide (i1<(a1.length:Int)))
def sW(a1 b1:Str):Option Int:=
 p8 a1 b1 BIG 0 0
def uJ(v1:ah):Nat→Int→Option Bool
 | 0,_=>none
 | dG+1,i1=>
 if decide (i1<(v1.keys.length:Int))then
  av (idx v1.keys i1) fun e1=>
  av (UY e1) fun x1=>
  av (
   if !x1 then
   some true
   else
   if decide (0<i1)then
    av (idx v1.keys (bq (i1-1))) fun e2=>
    av (idx v1.keys i1) fun e3=>
    av (sW e2 e3) fun x2=>
    some (decide (0≤x2))
   else
    some false) fun b1=>
  if b1 then
  some false
  else
  uJ v1 dG (bq (i1+1))
 else
  some ((v1.keys.length:Int)==(v1.aN.length:Int))
def Dz(v1:ah):Option Bool:=
 uJ v1 BIG 0
def EN(Br:ah→Int→Option Int)(v1:ah)(bN:Int):Nat→Int→Option Int
 | 0,_=>none
 | dG+1,i1=>
 if decide (i1<(v1.aN.length:Int))then
  av (idx v1.aN i1) fun e1=>
  av (Br e1 (bq (bN+1))) fun e2=>
  if e2 !=0 then
  some e2
  else
  EN Br v1 bN dG (bq (i1+1))
 else
  some 0
def NI(Br:ah→Int→Option Int)(v1:ah)(bN:Int):Option Int:=
 if decide (16<bN)then
 some 13
 else
 av (
  if (decide (v1.kind<0))||(decide (5<v1.kind))then
   some true
  else
   av (Mj v1) fun x1=>
   some (!x1)) fun b1=>
 if b1 then
  some 1
 else
  if (decide (v1.dS<(-9007199254740992)))||(decide (9007199254740992<v1.dS))then
  some 2
  else
  if ((decide (4096<(v1.bR.length:Int)))||(decide (1024<(v1.aN.length:Int))))||(decide (1024<(v1.keys.length:Int)))then
   some 3
  else
   av (
    if v1.kind==5 then
    av (Dz v1) fun x2=>
    some (!x2)
    else
    some false) fun b2=>
   if b2 then
   some 1
   else
   if ((decide (4≤v1.kind))&&((v1.aN.length:Int)==0))&&(bN==16)then
    some 13
   else
    EN Br v1 bN BIG 0
def wU:Nat→ah→Int→Option Int
 | 0,_,_=>none
 | k+1,rP,jo=>NI (wU k) rP jo
def TK(rP:ah)(jo:Int):Option Int:=wU BIG rP jo
def D5(v1:ah):Option Int:=
 TK v1 1
def AZ(Ck:List Str)(i1:Int)(Fz:Int→Option Bool):Nat→Int→Option Bool
 | 0,_=>none
 | Ea+1,CR=>
 if decide (CR<i1)then
  av (idx Ck i1) fun e1=>
  av (idx Ck CR) fun e2=>
  if e1==e2 then
  some true
  else
  AZ Ck i1 Fz Ea (bq (CR+1))
 else
  Fz (bq (i1+1))
def xE(Ck:List Str):Nat→Int→Option Bool
 | 0,_=>none
 | dG+1,i1=>
 if decide (i1<(Ck.length:Int))then
  AZ Ck i1 (xE Ck dG) BIG 0
 else
  some false
def Ma(Ck:List Str):Option Bool:=
 xE Ck BIG 0
def EJ(Bp:au→Int→Option Int)(e1:au)(bN:Int):Nat→Int→Option Int
 | 0,_=>none
 | dG+1,i1=>
 if decide (i1<(e1.args.length:Int))then
  av (idx e1.args i1) fun e2=>
  av (Bp e2 (bq (bN+1))) fun f2=>
  if f2 !=0 then
  some f2
  else
  EJ Bp e1 bN dG (bq (i1+1))
 else
  some 0
def Nz(Bp:au→Int→Option Int)(e1:au)(bN:Int):Option Int:=
 if decide (16<bN)then
 some 13
 else
 av (JE e1) fun x1=>
 if !x1 then
  some 1
 else
  av (D5 e1.value) fun f1=>
  if (e1.kind==1)&&(f1 !=0)then
  some f1
  else
  if decide (1024<(e1.args.length:Int))then
   some 3
  else
   av (Ma e1.keys) fun x2=>
   if x2 then
   some 7
   else
   EJ Bp e1 bN BIG 0
def wS:Nat→au→Int→Option Int
 | 0,_,_=>none
 | k+1,oG,jo=>Nz (wS k) oG jo
def TI(oG:au)(jo:Int):Option Int:=wS BIG oG jo
def Me(e1:au):Option Int:=
 av (Mg e1) fun x1=>
 if decide (4096<x1)then
 some 15
 else
 TI e1 1
def W9(name1:Str):Option Int:=
 if name1==([108,101,110]:Str)then
 some 1
 else
 if name1==([108,111,119,101,114]:Str)then
  some 1
 else
  if name1==([117,112,112,101,114]:Str)then
  some 1
  else
  if name1==([115,116,114,105,110,103]:Str)then
   some 1
  else
   if name1==([105,110,116]:Str)then
   some 1
   else
   if name1==([107,101,121,115]:Str)then
    some 1
   else
    if name1==([99,111,110,116,97,105,110,115]:Str)then
    some 2
    else
    if name1==([106,111,105,110]:Str)then
     some 2
    else
     if name1==([115,112,108,105,116]:Str)then
     some 2
     else
     if name1==([115,116,97,114,116,115,119,105,116,104]:Str)then
      some 2
     else
      if name1==([101,110,100,115,119,105,116,104]:Str)then
      some 2
      else
      if name1==([100,101,102,97,117,108,116]:Str)then
       some 2
      else
       some (-1)
def EI(jD:List aD)(i1:Int)(Jm:Int→Option Int):Nat→Int→Option Int
 | 0,_=>none
 | Ea+1,CR=>
 if decide (CR<i1)then
  av (idx jD CR) fun e4=>
  av (idx jD i1) fun e5=>
  if e4.name==e5.name then
  some 7
  else
  EI jD i1 Jm Ea (bq (CR+1))
 else
  Jm (bq (i1+1))
def Cc(jD:List aD):Nat→Int→Option Int
 | 0,_=>none
 | dG+1,i1=>
 if decide (i1<(jD.length:Int))then
  av (idx jD i1) fun e1=>
  av (uI e1.name) fun x1=>
  if !x1 then
  some 1
  else
  av (idx jD i1) fun e2=>
  av (D5 e2.value) fun e3=>
  if e3 !=0 then
   some e3
  else
   EI jD i1 (Cc jD dG) BIG 0
 else
  some 0
def aaA(jD:List aD):Option Int:=
 if decide (1024<(jD.length:Int))then
 some 3
 else
 Cc jD BIG 0
def Im(s1:Str):Option ah:=
 some (ah.mk 3 false 0 s1 [] [])
def EO(v1:ah)(key1:Str):Nat→Int→Option (ah × Bool)
 | 0,_=>none
 | dG+1,i1=>
 if decide (i1<(v1.keys.length:Int))then
  av (idx v1.keys i1) fun e1=>
  if e1==key1 then
  if decide ((v1.aN.length:Int)≤i1)then
   some ((ah.mk 0 false 0 ([]:Str) [] []),false)
  else
   av (idx v1.aN i1) fun e2=>
   some (e2,true)
  else
  EO v1 key1 dG (bq (i1+1))
 else
  some ((ah.mk 0 false 0 ([]:Str) [] []),false)
def UZ(v1:ah)(key1:Str):Option (ah × Bool):=
 if v1.kind !=5 then
 some ((ah.mk 0 false 0 ([]:Str) [] []),false)
 else
 EO v1 key1 BIG 0
def zF(GY:Int→Option Str)(n1:Int):Option Str:=
 if decide (n1<0)then
 if decide ((-10)<n1)then
  app ([45]:Str) ([(Ft.byteOf (bq (48-n1)))]:List UInt8)
 else
  av (GY (bq ((n1:Int).tdiv 10))) fun x2=>
  app x2 ([(Ft.byteOf (bq (48-((n1:Int).tmod 10))))]:List UInt8)
 else
 if decide (n1<10)then
  some ([(Ft.byteOf (bq (48+n1)))]:List UInt8)
 else
  av (GY (bq ((n1:Int).tdiv 10))) fun x4=>
  app x4 ([(Ft.byteOf (bq (48+((n1:Int).tmod 10))))]:List UInt8)
def lM:Nat→Int→Option Str
 | 0,_=>none
 | k+1,UD=>zF (lM k) UD
def Gt(UD:Int):Option Str:=lM BIG UD
def R4(c1:UInt8):Option Str:=
 if (c1.toNat:Int)==34 then
 some ([92,34]:List UInt8)
 else
 if (c1.toNat:Int)==92 then
  some ([92,92]:List UInt8)
 else
  if (c1.toNat:Int)==10 then
  some ([92,110]:List UInt8)
  else
  if (c1.toNat:Int)==9 then
   some ([92,116]:List UInt8)
  else
   if (decide (32≤(c1.toNat:Int)))&&(decide ((c1.toNat:Int)≤126))then
   some ([c1]:List UInt8)
   else
   av (idx ([48,49,50,51,52,53,54,55,56,57,97,98,99,100,101,102]:Str) ((c1/16).toNat:Int)) fun x1=>
   av (idx ([48,49,50,51,52,53,54,55,56,57,97,98,99,100,101,102]:Str) ((c1%16).toNat:Int)) fun x2=>
   some ([92,120,x1,x2]:List UInt8)
def KP(s1:Str):Nat→Str→Int→Option Str
 | 0,_,_=>none
 | dG+1,bM,i1=>
 if decide (i1<(s1.length:Int))then
  av (idx s1 i1) fun x1=>
  av (R4 x1) fun x2=>
  av (app bM x2) fun xM=>
  KP s1 dG xM (bq (i1+1))
 else
  app bM ([34]:List UInt8)
def Ml(s1:Str):Option Str:=
 KP s1 BIG ([34]:List UInt8) 0
def sV(jP:ah→Option Str)(v1:ah):Nat→Str→Int→Option Str
 | 0,_,_=>none
 | dG+1,s1,i1=>
 if decide (i1<(v1.aN.length:Int))then
  if decide (0<i1)then
  av (app s1 ([44,32]:Str)) fun s2=>
  if v1.kind==5 then
   av (idx v1.keys i1) fun e1=>
   av (Ml e1) fun x3=>
   av (app s2 x3) fun x4=>
   av (app x4 ([58,32]:Str)) fun s3=>
   av (idx v1.aN i1) fun e2=>
   av (jP e2) fun x5=>
   av (app s3 x5) fun s4=>
   sV jP v1 dG s4 (bq (i1+1))
  else
   av (idx v1.aN i1) fun e3=>
   av (jP e3) fun x6=>
   av (app s2 x6) fun s5=>
   sV jP v1 dG s5 (bq (i1+1))
  else
  if v1.kind==5 then
   av (idx v1.keys i1) fun e4=>
   av (Ml e4) fun x7=>
   av (app s1 x7) fun x8=>
   av (app x8 ([58,32]:Str)) fun s6=>
   av (idx v1.aN i1) fun e5=>
   av (jP e5) fun x9=>
   av (app s6 x9) fun s7=>
   sV jP v1 dG s7 (bq (i1+1))
  else
   av (idx v1.aN i1) fun e6=>
   av (jP e6) fun Kn=>
   av (app s1 Kn) fun s8=>
   sV jP v1 dG s8 (bq (i1+1))
 else
  if v1.kind==5 then
  av (app ([123]:Str) s1) fun RP=>
  app RP ([125]:Str)
  else
  av (app ([91]:Str) s1) fun V7=>
  app V7 ([93]:Str)
def Jd(jP:ah→Option Str)(v1:ah):Option Str:=
 if v1.kind==0 then
 some ([110,117,108,108]:Str)
 else
 if v1.kind==1 then
  if v1.dR then
  some ([116,114,117,101]:Str)
  else
  some ([102,97,108,115,101]:Str)
 else
  if v1.kind==2 then
  Gt v1.dS
  else
  if v1.kind==3 then
   Ml v1.bR
  else
   sV jP v1 BIG ([]:Str) 0
def Dy:Nat→ah→Option Str
 | 0,_=>none
 | k+1,rP=>Jd (Dy k) rP
def NG(rP:ah):Option Str:=Dy BIG rP
def W_(v1:ah):Option (Str × Int):=
 if (v1.kind==4)||(v1.kind==5)then
 some (([]:Str),9)
 else
 av (D5 v1) fun e1=>
 if e1 !=0 then
  some (([]:Str),e1)
 else
  if v1.kind==0 then
  some (([]:Str),0)
  else
  if v1.kind==3 then
   some (v1.bR,0)
  else
   av (NG v1) fun x1=>
   some (x1,0)
def AV(s1:Str)(pQ xV:UInt8)(DR:Int):Nat→List UInt8→Int→Option Str
 | 0,_,_=>none
 | dG+1,b1,i1=>
 if decide (i1<(s1.length:Int))then
  av (idx s1 i1) fun c1=>
  if (decide ((pQ.toNat:Int)≤(c1.toNat:Int)))&&(decide ((c1.toNat:Int)≤(xV.toNat:Int)))then
  av (app b1 ([(Ft.byteOf (bq ((c1.toNat:Int)+DR)))]:List UInt8)) fun b2=>
  AV s1 pQ xV DR dG b2 (bq (i1+1))
  else
  av (app b1 ([c1]:List UInt8)) fun b3=>
  AV s1 pQ xV DR dG b3 (bq (i1+1))
 else
  some b1
def TH(s1:Str)(pQ xV:UInt8)(DR:Int):Option Str:=
 AV s1 pQ xV DR BIG [] 0
def yR(s1:Str):Nat→Int→Int→Option (Int × Bool)
 | 0,_,_=>none
 | dG+1,n1,i1=>
 if decide (i1<(s1.length:Int))then
  av (idx s1 i1) fun x2=>
  av (rD x2) fun x3=>
  if !x3 then
  some (0,false)
  else
  av (idx s1 i1) fun x4=>
  yR s1 dG (bq ((bq ((bq (10*n1))+(x4.toNat:Int)))-48)) (bq (i1+1))
 else
  some (n1,(decide (n1≤9007199254740992)))
def zD(s1:Str):Option (Int × Bool):=
 av (
  if (s1==([]:Str))||(decide (16<(s1.length:Int)))then
  some true
  else
  if decide (1<(s1.length:Int))then
   av (idx s1 0) fun x1=>
   some ((x1.toNat:Int)==48)
  else
   some false) fun b1=>
 if b1 then
 some (0,false)
 else
 yR s1 BIG 0 0
def EH(s1:Str):Option (Int × Bool):=
 av (
  if !(s1==([]:Str))then
  av (idx s1 0) fun x1=>
  some ((x1.toNat:Int)==45)
  else
  some false) fun b1=>
 if b1 then
 av (sl s1 1 (s1.length:Int)) fun x2=>
 eD (zD x2) fun n1 ok1=>
 some ((bq (0-n1)),(ok1&&(n1 !=0)))
 else
 zD s1
def nR(ah8:Bool):Option Int:=
 if ah8 then
 some (-1)
 else
 some 1
def A9(a1 b1:List Str):Nat→Int→Option Int
 | 0,_=>none
 | dG+1,i1=>
 if (decide (i1<(a1.length:Int)))&&(decide (i1<(b1.length:Int)))then
  av (idx a1 i1) fun e1=>
  av (idx b1 i1) fun e2=>
  av (sW e1 e2) fun c1=>
  if c1 !=0 then
  nR (decide (c1<0))
  else
  A9 a1 b1 dG (bq (i1+1))
 else
  if (a1.length:Int)==(b1.length:Int)then
  some 0
  else
  nR (decide ((a1.length:Int)<(b1.length:Int)))
def Mk(a1 b1:List Str):Option Int:=
 A9 a1 b1 BIG 0
def Je(tO:ah→ah→Option Int)(EY:List ah→List ah→Option Int)(a1 b1:ah):Option Int:=
 if a1.kind !=b1.kind then
 nR (decide (a1.kind<b1.kind))
 else
 if a1.kind==1 then
  if !(a1.dR==b1.dR)then
  nR b1.dR
  else
  some 0
 else
  if a1.kind==2 then
  if a1.dS !=b1.dS then
   nR (decide (a1.dS<b1.dS))
  else
   some 0
  else
  if a1.kind==3 then
   if !(a1.bR==b1.bR)then
   nR (Go.Op.bytesLess a1.bR b1.bR)
   else
   some 0
  else
   if a1.kind==4 then
   EY a1.aN b1.aN
   else
   if a1.kind==5 then
    av (Mk a1.keys b1.keys) fun c1=>
    if c1 !=0 then
    some c1
    else
    EY a1.aN b1.aN
   else
    some 0
def A_(tO:ah→ah→Option Int)(a1 b1:List ah):Nat→Int→Option Int
 | 0,_=>none
 | dG+1,i1=>
 if (decide (i1<(a1.length:Int)))&&(decide (i1<(b1.length:Int)))then
  av (idx a1 i1) fun e1=>
  av (idx b1 i1) fun e2=>
  av (tO e1 e2) fun c1=>
  if c1 !=0 then
  some c1
  else
  A_ tO a1 b1 dG (bq (i1+1))
 else
  if (a1.length:Int)==(b1.length:Int)then
  some 0
  else
  nR (decide ((a1.length:Int)<(b1.length:Int)))
def NH(tO:ah→ah→Option Int)(EY:List ah→List ah→Option Int)(a1 b1:List ah):Option Int:=
 A_ tO a1 b1 BIG 0
mutual
def nA:Nat→ah→ah→Option Int
 | 0,_,_=>none
 | k+1,RD,RB=>Je (nA k) (Gp k) RD RB
def Gp:Nat→List ah→List ah→Option Int
 | 0,_,_=>none
 | k+1,RD,RB=>NH (nA k) (Gp k) RD RB
end
def Gu(RD RB:ah):Option Int:=nA BIG RD RB
def D6(a1 b1:ah):Option Bool:=
 av (Gu a1 b1) fun x1=>
 some (x1==0)
def zU(b1:Bool):Option ah:=
 some (ah.mk 1 b1 0 ([]:Str) [] [])
def C8(s1 t1:Str):Nat→Int→Option Int
 | 0,_=>none
 | dG+1,i1=>
 if decide ((bq (i1+(t1.length:Int)))≤(s1.length:Int))then
  av (sl s1 i1 (bq (i1+(t1.length:Int)))) fun x1=>
  if x1==t1 then
  some i1
  else
  C8 s1 t1 dG (bq (i1+1))
 else
  some (-1)
def Gi(s1 t1:Str)(aaW:Int):Option Int:=
 C8 s1 t1 BIG aaW
def vX(a1 b1:ah):Nat→Int→Option (ah × Int)
 | 0,_=>none
 | dG+1,i1=>
 if decide (i1<(a1.aN.length:Int))then
  av (idx a1.aN i1) fun e1=>
  av (D6 e1 b1) fun x1=>
  if x1 then
  av (zU true) fun x2=>
  some (x2,0)
  else
  vX a1 b1 dG (bq (i1+1))
 else
  av (zU false) fun x3=>
  some (x3,0)
def KM(a1 b1:ah):Option (ah × Int):=
 if a1.kind==4 then
 vX a1 b1 BIG 0
 else
 if (b1.kind !=3)||((a1.kind !=3)&&(a1.kind !=5))then
  some ((ah.mk 0 false 0 ([]:Str) [] []),9)
 else
  if a1.kind==5 then
  eD (UZ a1 b1.bR) fun x4 ok1=>
  av (zU ok1) fun x5=>
  some (x5,0)
  else
  av (Gi a1.bR b1.bR 0) fun x6=>
  av (zU (decide (0≤x6))) fun x7=>
  some (x7,0)
def DC(zI:ah→Option Int)(v1:ah):Nat→Int→Int→Option Int
 | 0,_,_=>none
 | dG+1,n1,i1=>
 if decide (i1<(v1.aN.length:Int))then
  av (idx v1.aN i1) fun e1=>
  av (zI e1) fun x1=>
  DC zI v1 dG (if n1<(bq (1+x1))then (bq (1+x1))else n1) (bq (i1+1))
 else
  some n1
def KQ(zI:ah→Option Int)(v1:ah):Option Int:=
 if (v1.kind !=4)&&(v1.kind !=5)then
 some 1
 else
 DC zI v1 BIG 2 0
def uK:Nat→ah→Option Int
 | 0,_=>none
 | k+1,rP=>KQ (uK k) rP
def JI(rP:ah):Option Int:=uK BIG rP
def yP(v1:ah):Option (ah × Int):=
 if (decide (v1.dS<(-9007199254740992)))||(decide (9007199254740992<v1.dS))then
 some ((ah.mk 0 false 0 ([]:Str) [] []),11)
 else
 if (decide (4096<(v1.bR.length:Int)))||(decide (1024<(v1.aN.length:Int)))then
  some ((ah.mk 0 false 0 ([]:Str) [] []),3)
 else
  av (JI v1) fun x1=>
  if decide (16<x1)then
  some ((ah.mk 0 false 0 ([]:Str) [] []),13)
  else
  some (v1,0)
def wR(a1 b1:ah):Nat→Str→Int→Option (ah × Int)
 | 0,_,_=>none
 | dG+1,s1,i1=>
 if decide (i1<(a1.aN.length:Int))then
  av (idx a1.aN i1) fun e1=>
  if e1.kind !=3 then
  some ((ah.mk 0 false 0 ([]:Str) [] []),9)
  else
  if decide (0<i1)then
   av (app s1 b1.bR) fun s2=>
   av (idx a1.aN i1) fun e2=>
   av (app s2 e2.bR) fun s3=>
   wR a1 b1 dG s3 (bq (i1+1))
  else
   av (idx a1.aN i1) fun e3=>
   av (app s1 e3.bR) fun s4=>
   wR a1 b1 dG s4 (bq (i1+1))
 else
  av (Im s1) fun x1=>
  yP x1
def WZ(a1 b1:ah):Option (ah × Int):=
 if (a1.kind !=4)||(b1.kind !=3)then
 some ((ah.mk 0 false 0 ([]:Str) [] []),9)
 else
 wR a1 b1 BIG ([]:Str) 0
def AU(s1 DR:Str):Nat→List ah→Int→Int→Option (ah × Int)
 | 0,_,_,_=>none
 | dG+1,l1,aaW,at2=>
 if decide (0≤at2)then
  av (sl s1 aaW at2) fun x1=>
  av (Im x1) fun x2=>
  av (app l1 [x2]) fun l2=>
  av (Gi s1 DR (bq (at2+(DR.length:Int)))) fun at3=>
  AU s1 DR dG l2 (bq (at2+(DR.length:Int))) at3
 else
  av (sl s1 aaW (s1.length:Int)) fun x3=>
  av (Im x3) fun x4=>
  av (app l1 [x4]) fun x5=>
  yP (ah.mk 4 false 0 ([]:Str) x5 [])
def Il(s1 DR:Str):Option (ah × Int):=
 if DR==([]:Str)then
 some ((ah.mk 0 false 0 ([]:Str) [] []),1)
 else
 av (Gi s1 DR 0) fun cZ=>
 AU s1 DR BIG [] 0 cZ
def EG(l:List aU):Bool:=
 match l.getLast? with
 | some p=>p.is_
 | none=>true
def EF(l:List aU):Str:=
 match l.getLast? with
 | some p=>p.text
 | none=>[]
def Nv(l:List aU)(t:Str):List aU:=
 match l.getLast? with
 | some p=>l.dropLast++[aU.mk t p.is_ p.expr]
 | none=>l
def Gh(l1:List aU)(c1:UInt8):Option (List aU):=
 if l1.length≤w9 then
  if ((l1.length:Int)==0)||EG l1 then
   app l1 [(aU.mk [c1] false (au.mk 0 ([]:Str) (ah.mk 0 false 0 ([]:Str) [] []) [] []))]
  else
   av (app (EF l1) [c1]) fun t1=>
   some (Nv l1 t1)
 else
  none
def vJ(s1:Str):Nat→Int→Option Int
 | 0,_=>none
 | dG+1,at2=>
  av (
    if decide (at2<(s1.length:Int))then
     av (idx s1 at2) fun x1=>
     some ((x1.toNat:Int) !=34)
    else
     some false) fun b1=>
  if b1 then
   av (idx s1 at2) fun x2=>
   if (x2.toNat:Int)==92 then
    vJ s1 dG (bq ((bq (at2+1))+1))
   else
    vJ s1 dG (bq (at2+1))
  else
   some (bq (at2+1))
def PG(s1:Str)(cZ:Int):Option Int:=
 vJ s1 BIG (bq (cZ+1))
def ku(s1:Str):Nat→Int→Int→Option Int
 | 0,_,_=>none
 | dG+1,at2,iE=>
  if decide (at2<(s1.length:Int))then
   av (idx s1 at2) fun x1=>
   if (x1.toNat:Int)==34 then
    av (PG s1 at2) fun at3=>
    ku s1 dG at3 iE
   else
    if (x1.toNat:Int)==123 then
     ku s1 dG (bq (at2+1)) (bq (iE+1))
    else
     if (x1.toNat:Int)==125 then
      if iE==0 then
       some at2
      else
       ku s1 dG (bq (at2+1)) (bq (iE-1))
     else
      ku s1 dG (bq (at2+1)) iE
  else
   some (-1)
def Nw(s1:Str)(cZ:Int):Option Int:=
 ku s1 BIG cZ 0
def sS(bL:Str):Nat→Int→Bool→Option Int
 | 0,_,_=>none
 | dG+1,at2,XZ=>
  av (
    if decide (at2<(bL.length:Int))then
     av (idx bL at2) fun x1=>
     some ((x1.toNat:Int) !=10)
    else
     some false) fun b1=>
  av (
    if b1 then
     av (
       if XZ then
        some true
       else
        av (idx bL at2) fun x2=>
        some ((x2.toNat:Int)==32)) fun b3=>
     av (
       if b3 then
        some true
       else
        av (idx bL at2) fun x3=>
        some ((x3.toNat:Int)==9)) fun b4=>
     if b4 then
      some true
     else
      av (idx bL at2) fun x4=>
      some ((x4.toNat:Int)==35)
    else
     some false) fun b2=>
  if b2 then
   av (
     if XZ then
      some true
     else
      av (idx bL at2) fun x5=>
      some ((x5.toNat:Int)==35)) fun b6=>
   sS bL dG (bq (at2+1)) b6
  else
   some at2
def sU(bL:Str)(cZ:Int):Option Int:=
 sS bL BIG cZ false
def zC(bL:Str)(cZ:Int):Nat→Int→Option Int
 | 0,_=>none
 | dG+1,n1=>
  av (
    if decide ((bq (cZ+n1))<(bL.length:Int))then
     av (idx bL (bq (cZ+n1))) fun x1=>
     rD x1
    else
     some false) fun b1=>
  if b1 then
   zC bL cZ dG (bq (n1+1))
  else
   some n1
def JG(bL:Str)(cZ:Int):Option Int:=
 zC bL cZ BIG 0
def C9(bL:Str)(cZ:Int):Nat→Int→Option Int
 | 0,_=>none
 | dG+1,n1=>
  av (
    if decide ((bq (cZ+n1))<(bL.length:Int))then
     av (idx bL (bq (cZ+n1))) fun x1=>
     av (EM x1) fun x2=>
     if x2 then
      some true
     else
      av (idx bL (bq (cZ+n1))) fun x3=>
      rD x3
    else
     some false) fun b1=>
  if b1 then
   C9 bL cZ dG (bq (n1+1))
  else
   some n1
def KN(bL:Str)(cZ:Int):Option Int:=
 C9 bL cZ BIG 0
def JF(bL:Str)(cZ:Int):Option (ay × Int × Int):=
 av (JG bL cZ) fun n1=>
 av (KN bL cZ) fun x1=>
 av (
   if decide (n1<x1)then
    some true
   else
    if decide (1<n1)then
     av (idx bL cZ) fun x2=>
     some ((x2.toNat:Int)==48)
    else
     some false) fun b1=>
 if b1 then
  some ((ay.mk 0 ([]:Str) 0),0,5)
 else
  av (sl bL cZ (bq (cZ+n1))) fun x3=>
  eD (zD x3) fun x4 ok1=>
  if !ok1 then
   some ((ay.mk 0 ([]:Str) 0),0,2)
  else
   av (sl bL cZ (bq (cZ+n1))) fun x5=>
   some ((ay.mk 2 x5 0),n1,0)
def OD(c1:UInt8):Option Int:=
 av (rD c1) fun x1=>
 if x1 then
  some (bq ((c1.toNat:Int)-48))
 else
  if (decide (97≤(c1.toNat:Int)))&&(decide ((c1.toNat:Int)≤102))then
   some (bq ((c1.toNat:Int)-87))
  else
   if (decide (65≤(c1.toNat:Int)))&&(decide ((c1.toNat:Int)≤70))then
    some (bq ((c1.toNat:Int)-55))
   else
    some (-1)
def nQ(bL:Str)(cZ:Int):Nat→Int→Int→Option (UInt8 × Int × Int)
 | 0,_,_=>none
 | dG+1,n1,i1=>
  if decide (i1<(bq (cZ+4)))then
   if decide ((bL.length:Int)≤i1)then
    some (0,0,4)
   else
    av (idx bL i1) fun x1=>
    av (OD x1) fun x2=>
    if decide (x2<0)then
     some (0,0,5)
    else
     av (idx bL i1) fun x3=>
     av (OD x3) fun x4=>
     nQ bL cZ dG (bq ((bq (16*n1))+x4)) (bq (i1+1))
  else
   some ((Ft.byteOf n1),4,0)
def Gl(bL:Str)(cZ:Int):Option (UInt8 × Int × Int):=
 nQ bL cZ BIG 0 (bq (cZ+2))
def rE(bL:Str)(cZ:Int):Option (UInt8 × Int × Int):=
 av (idx bL cZ) fun x1=>
 if decide ((x1.toNat:Int)<32)then
  some (0,0,5)
 else
  av (idx bL cZ) fun x2=>
  if (x2.toNat:Int) !=92 then
   av (idx bL cZ) fun x3=>
   some (x3,1,0)
  else
   if decide ((bL.length:Int)≤(bq (cZ+1)))then
    some (0,0,4)
   else
    av (idx bL (bq (cZ+1))) fun x4=>
    if (x4.toNat:Int)==34 then
     av (idx bL (bq (cZ+1))) fun x5=>
     some (x5,2,0)
    else
     if (x4.toNat:Int)==92 then
      av (idx bL (bq (cZ+1))) fun x6=>
      some (x6,2,0)
     else
      if (x4.toNat:Int)==110 then
       some (10,2,0)
      else
       if (x4.toNat:Int)==116 then
        some (9,2,0)
       else
        if (x4.toNat:Int)==120 then
         Gl bL cZ
        else
         some (0,0,5)
def C_(bL:Str)(cZ:Int):Nat→List UInt8→Int→Option (ay × Int × Int)
 | 0,_,_=>none
 | dG+1,b1,i1=>
  if decide (i1<(bL.length:Int))then
   av (idx bL i1) fun x1=>
   if (x1.toNat:Int)==34 then
    if decide (4096<(b1.length:Int))then
     some ((ay.mk 0 ([]:Str) 0),0,3)
    else
     some ((ay.mk 3 b1 0),(bq ((bq (i1+1))-cZ)),0)
   else
    mD (rE bL i1) fun c1 n1 e1=>
    if e1 !=0 then
     some ((ay.mk 0 ([]:Str) 0),0,e1)
    else
     av (app b1 ([c1]:List UInt8)) fun b2=>
     C_ bL cZ dG b2 (bq (i1+n1))
  else
   some ((ay.mk 0 ([]:Str) 0),0,4)
def PL(bL:Str)(cZ:Int):Option (ay × Int × Int):=
 C_ bL cZ BIG [] (bq (cZ+1))
def gZ(bL:Str)(cZ:Int):Nat→Int→Option Int
 | 0,_=>none
 | Ea+1,i2=>
  if decide (i2<19)then
   av (idx bL cZ) fun x3=>
   av (idx ([60,62,43,45,42,47,37,33,63,58,46,44,61,40,41,91,93,123,125]:Str) i2) fun x4=>
   if (x3.toNat:Int)==(x4.toNat:Int)then
    some 1
   else
    gZ bL cZ Ea (bq (i2+1))
  else
   some 0
def gJ(bL:Str)(cZ:Int):Nat→Int→Option Int
 | 0,_=>none
 | dG+1,i1=>
  if decide (i1<12)then
   av (
     if decide ((bq (cZ+2))≤(bL.length:Int))then
      av (sl bL cZ (bq (cZ+2))) fun x1=>
      av (sl ([124,124,38,38,61,61,33,61,60,61,62,61]:Str) i1 (bq (i1+2))) fun x2=>
      some (x1==x2)
     else
      some false) fun b1=>
   if b1 then
    some 2
   else
    gJ bL cZ dG (bq (i1+2))
  else
   gZ bL cZ BIG 0
def EL(bL:Str)(cZ:Int):Option Int:=
 gJ bL cZ BIG 0
def Mh(bL:Str)(cZ:Int):Option (ay × Int × Int):=
 av (idx bL cZ) fun x1=>
 av (rD x1) fun x2=>
 if x2 then
  JF bL cZ
 else
  av (idx bL cZ) fun x6=>
  if (x6.toNat:Int)==34 then
   PL bL cZ
  else
   av (KN bL cZ) fun n1=>
   if decide (0<n1)then
    if decide (64<n1)then
     some ((ay.mk 0 ([]:Str) 0),0,3)
    else
     av (sl bL cZ (bq (cZ+n1))) fun Kn=>
     some ((ay.mk 1 Kn 0),n1,0)
   else
    av (EL bL cZ) fun n2=>
    if n2==0 then
     some ((ay.mk 0 ([]:Str) 0),0,5)
    else
     av (sl bL cZ (bq (cZ+n2))) fun RP=>
     some ((ay.mk 4 RP 0),n2,0)
def wC(iE:Int)(t1:ay):Option Int:=
 if (t1.kind==4)&&((t1.text==([40]:Str))||(t1.text==([91]:Str)))then
  some (bq (iE+1))
 else
  if ((t1.kind==4)&&((t1.text==([41]:Str))||(t1.text==([93]:Str))))&&(decide (0<iE))then
   some (bq (iE-1))
  else
   some iE
def ny(bL:Str):Nat→List ay→Int→Int→Option (List ay × Int × Int)
 | 0,_,_,_=>none
 | dG+1,bM,iE,at2=>
  if decide (at2<(bL.length:Int))then
   av (idx bL at2) fun x1=>
   if (x1.toNat:Int) !=10 then
    mD (Mh bL at2) fun x2 CR e1=>
    if e1 !=0 then
     some ([],at2,e1)
    else
     av (
       if x2.kind !=5 then
        some true
       else
        if iE==0 then
         if (bM.length:Int)==0 then
          some true
         else
          av (idx bM (bq ((bM.length:Int)-1))) fun e2=>
          some (e2.kind !=5)
        else
         some false) fun b1=>
     if b1 then
      av (app bM [(ay.mk x2.kind x2.text at2)]) fun xM=>
      av (wC iE (ay.mk x2.kind x2.text at2)) fun Xg=>
      av (sU bL (bq (at2+CR))) fun at3=>
      ny bL dG xM Xg at3
     else
      av (wC iE (ay.mk x2.kind x2.text at2)) fun al0=>
      av (sU bL (bq (at2+CR))) fun at4=>
      ny bL dG bM al0 at4
   else
    av (
      if (5:Int) !=5 then
       some true
      else
       if iE==0 then
        if (bM.length:Int)==0 then
         some true
        else
         av (idx bM (bq ((bM.length:Int)-1))) fun e3=>
         some (e3.kind !=5)
       else
        some false) fun b4=>
    if b4 then
     av (app bM [(ay.mk 5 ([]:Str) at2)]) fun KW=>
     av (wC iE (ay.mk 5 ([]:Str) at2)) fun alZ=>
     av (sU bL (bq (at2+1))) fun at5=>
     ny bL dG KW alZ at5
    else
     av (wC iE (ay.mk 5 ([]:Str) at2)) fun alY=>
     av (sU bL (bq (at2+1))) fun at6=>
     ny bL dG bM alY at6
  else
   some (bM,0,0)
def yQ(bL:Str):Option (List ay × Int × Int):=
 if decide (65536<(bL.length:Int))then
  some ([],0,3)
 else
  av (sU bL 0) fun cZ=>
  ny bL BIG [] 0 cZ
def rQ(lq:List ay)(cZ:Int)(s1:Str):Option Bool:=
 av (
   if decide (cZ<(lq.length:Int))then
    av (idx lq cZ) fun e1=>
    some (e1.kind==4)
   else
    some false) fun b1=>
 if b1 then
  av (idx lq cZ) fun e2=>
  some (e2.text==s1)
 else
  some false
def zV(v1:ah):Option au:=
 some (au.mk 1 ([]:Str) v1 [] [])
def UW(t1:ay):Option Bool:=
 av (
   if t1.kind==1 then
    KO t1.text
   else
    some false) fun b1=>
 some (b1||((t1.kind==3)&&(decide ((t1.text.length:Int)≤4096))))
def nu(lq:List ay)(cZ:Int):Option Int:=
 if decide ((lq.length:Int)≤cZ)then
  some 4
 else
  some 5
def Fw(dH:List ay→Int→Option (au × Int × Int))(gq:List ay→Int→Int→Option (au × Int × Int))(mX o8 qE qD:List ay→Int→Option (au × Int × Int))(nD:List ay→Int→Str→Bool→Option (List au × List Str × Int × Int))(kN:List ay→Int→Option (au × Int × Int))(lq:List ay)(cZ:Int):Option (au × Int × Int):=
 mD (gq lq cZ 2) fun x1 at2 e1=>
 av (
   if e1 !=0 then
    some true
   else
    av (rQ lq at2 ([63]:Str)) fun x2=>
    some (!x2)) fun b1=>
 if b1 then
  some (x1,at2,e1)
 else
  mD (dH lq (bq (at2+1))) fun x3 at3 e2=>
  if e2 !=0 then
   some ((au.mk 0 ([]:Str) (ah.mk 0 false 0 ([]:Str) [] []) [] []),at3,e2)
  else
   av (rQ lq at3 ([58]:Str)) fun x4=>
   if !x4 then
    av (nu lq at3) fun x5=>
    some ((au.mk 0 ([]:Str) (ah.mk 0 false 0 ([]:Str) [] []) [] []),at3,x5)
   else
    mD (dH lq (bq (at3+1))) fun x6 at4 e3=>
    some ((au.mk 8 ([]:Str) (ah.mk 0 false 0 ([]:Str) [] []) [x1,x3,x6] []),at4,e3)
def lC(gq:List ay→Int→Int→Option (au × Int × Int))(lq:List ay)(wP:Int):Nat→Int→Int→Int→au→Option (au × Int × Int)
 | 0,_,_,_,_=>none
 | dG+1,at3,e2,n1,Qt=>
  av (
    if (e2==0)&&(decide (at3<(lq.length:Int)))then
     av (idx lq at3) fun e3=>
     some (e3.kind==4)
    else
     some false) fun b1=>
  av (
    if b1 then
     av (idx lq at3) fun e4=>
     av (A8 e4.text) fun x5=>
     some (x5==wP)
    else
     some false) fun b2=>
  if b2&&((n1==0)||(wP !=4))then
   mD (gq lq (bq (at3+1)) (bq (wP+1))) fun x6 jV f1=>
   av (idx lq at3) fun e5=>
   lC gq lq wP dG jV f1 (bq (n1+1)) (au.mk 7 e5.text (ah.mk 0 false 0 ([]:Str) [] []) [Qt,x6] [])
  else
   some (Qt,at3,e2)
def Al(dH:List ay→Int→Option (au × Int × Int))(gq:List ay→Int→Int→Option (au × Int × Int))(mX o8 qE qD:List ay→Int→Option (au × Int × Int))(nD:List ay→Int→Str→Bool→Option (List au × List Str × Int × Int))(kN:List ay→Int→Option (au × Int × Int))(lq:List ay)(cZ wP:Int):Option (au × Int × Int):=
 if wP==7 then
  mX lq cZ
 else
  mD (gq lq cZ (bq (wP+1))) fun x4 at2 e1=>
  lC gq lq wP BIG at2 e1 0 x4
def Ny(dH:List ay→Int→Option (au × Int × Int))(gq:List ay→Int→Int→Option (au × Int × Int))(mX o8 qE qD:List ay→Int→Option (au × Int × Int))(nD:List ay→Int→Str→Bool→Option (List au × List Str × Int × Int))(kN:List ay→Int→Option (au × Int × Int))(lq:List ay)(cZ:Int):Option (au × Int × Int):=
 av (rQ lq cZ ([33]:Str)) fun x1=>
 av (
   if !x1 then
    av (rQ lq cZ ([45]:Str)) fun x2=>
    some (!x2)
   else
    some false) fun b1=>
 if b1 then
  o8 lq cZ
 else
  mD (mX lq (bq (cZ+1))) fun x6 jV e1=>
  av (idx lq cZ) fun e2=>
  some ((au.mk 6 e2.text (ah.mk 0 false 0 ([]:Str) [] []) [x6] []),jV,e1)
def qJ(dH:List ay→Int→Option (au × Int × Int))(lq:List ay)(e1:Int):Nat→Int→au→Option (au × Int × Int)
 | 0,_,_=>none
 | dG+1,at3,x2=>
  av (
    if e1==0 then
     av (rQ lq at3 ([46]:Str)) fun x3=>
     if x3 then
      some true
     else
      rQ lq at3 ([91]:Str)
    else
     some false) fun b1=>
  if b1 then
   av (rQ lq at3 ([46]:Str)) fun x5=>
   if x5 then
    av (
      if decide ((lq.length:Int)≤(bq (at3+1)))then
       some true
      else
       av (idx lq (bq (at3+1))) fun e2=>
       some (e2.kind !=1)) fun b3=>
    av (
      if b3 then
       some true
      else
       av (idx lq (bq (at3+1))) fun e3=>
       av (uI e3.text) fun x6=>
       some (!x6)) fun b4=>
    if b4 then
     av (nu lq (bq (at3+1))) fun x7=>
     some ((au.mk 0 ([]:Str) (ah.mk 0 false 0 ([]:Str) [] []) [] []),(bq (at3+1)),x7)
    else
     av (idx lq (bq (at3+1))) fun e4=>
     qJ dH lq e1 dG (bq ((bq (at3+1))+1)) (au.mk 3 e4.text (ah.mk 0 false 0 ([]:Str) [] []) [x2] [])
   else
    mD (dH lq (bq (at3+1))) fun x8 jV f1=>
    if f1 !=0 then
     some ((au.mk 0 ([]:Str) (ah.mk 0 false 0 ([]:Str) [] []) [] []),jV,f1)
    else
     av (rQ lq jV ([93]:Str)) fun x9=>
     if !x9 then
      av (nu lq jV) fun Kn=>
      some ((au.mk 0 ([]:Str) (ah.mk 0 false 0 ([]:Str) [] []) [] []),jV,Kn)
     else
      qJ dH lq e1 dG (bq (jV+1)) (au.mk 4 ([]:Str) (ah.mk 0 false 0 ([]:Str) [] []) [x2,x8] [])
  else
   some (x2,at3,e1)
def NA(dH:List ay→Int→Option (au × Int × Int))(gq:List ay→Int→Int→Option (au × Int × Int))(mX o8 qE qD:List ay→Int→Option (au × Int × Int))(nD:List ay→Int→Str→Bool→Option (List au × List Str × Int × Int))(kN:List ay→Int→Option (au × Int × Int))(lq:List ay)(cZ:Int):Option (au × Int × Int):=
 mD (qE lq cZ) fun x1 at2 e1=>
 qJ dH lq e1 BIG at2 x1
def PI(dH:List ay→Int→Option (au × Int × Int))(gq:List ay→Int→Int→Option (au × Int × Int))(mX o8 qE qD:List ay→Int→Option (au × Int × Int))(nD:List ay→Int→Str→Bool→Option (List au × List Str × Int × Int))(kN:List ay→Int→Option (au × Int × Int))(lq:List ay)(cZ:Int):Option (au × Int × Int):=
 if decide ((lq.length:Int)≤cZ)then
  some ((au.mk 0 ([]:Str) (ah.mk 0 false 0 ([]:Str) [] []) [] []),cZ,4)
 else
  av (idx lq cZ) fun e1=>
  if e1.kind==2 then
   eD (zD e1.text) fun n1 ok1=>
   if ok1 then
    av (zV (ah.mk 2 false n1 ([]:Str) [] [])) fun x1=>
    some (x1,(bq (cZ+1)),0)
   else
    some ((au.mk 0 ([]:Str) (ah.mk 0 false 0 ([]:Str) [] []) [] []),cZ,5)
  else
   if e1.kind==3 then
    if decide ((e1.text.length:Int)≤4096)then
     av (zV (ah.mk 3 false 0 e1.text [] [])) fun x2=>
     some (x2,(bq (cZ+1)),0)
    else
     some ((au.mk 0 ([]:Str) (ah.mk 0 false 0 ([]:Str) [] []) [] []),cZ,5)
   else
    if e1.kind==1 then
     qD lq cZ
    else
     if e1.kind==4 then
      kN lq cZ
     else
      some ((au.mk 0 ([]:Str) (ah.mk 0 false 0 ([]:Str) [] []) [] []),cZ,5)
def JC(dH:List ay→Int→Option (au × Int × Int))(gq:List ay→Int→Int→Option (au × Int × Int))(mX o8 qE qD:List ay→Int→Option (au × Int × Int))(nD:List ay→Int→Str→Bool→Option (List au × List Str × Int × Int))(kN:List ay→Int→Option (au × Int × Int))(lq:List ay)(cZ:Int):Option (au × Int × Int):=
 av (idx lq cZ) fun e1=>
 if e1.text==([110,117,108,108]:Str)then
  av (zV (ah.mk 0 false 0 ([]:Str) [] [])) fun x1=>
  some (x1,(bq (cZ+1)),0)
 else
  if e1.text==([116,114,117,101]:Str)then
   av (zV (ah.mk 1 (e1.text==([116,114,117,101]:Str)) 0 ([]:Str) [] [])) fun x2=>
   some (x2,(bq (cZ+1)),0)
  else
   if e1.text==([102,97,108,115,101]:Str)then
    av (zV (ah.mk 1 (e1.text==([116,114,117,101]:Str)) 0 ([]:Str) [] [])) fun x3=>
    some (x3,(bq (cZ+1)),0)
   else
    av (uI e1.text) fun x4=>
    if !x4 then
     some ((au.mk 0 ([]:Str) (ah.mk 0 false 0 ([]:Str) [] []) [] []),cZ,5)
    else
     av (rQ lq (bq (cZ+1)) ([40]:Str)) fun x5=>
     if !x5 then
      some ((au.mk 2 e1.text (ah.mk 0 false 0 ([]:Str) [] []) [] []),(bq (cZ+1)),0)
     else
      Jp (nD lq (bq (cZ+2)) ([41]:Str) false) fun l1 x6 jV e2=>
      some ((au.mk 5 e1.text (ah.mk 0 false 0 ([]:Str) [] []) l1 []),jV,e2)
def sQ(dH:List ay→Int→Option (au × Int × Int))(lq:List ay)(CK:Str)(Hr:Bool):Nat→Int→List au→List Str→Option (List au × List Str × Int × Int)
 | 0,_,_,_=>none
 | dG+1,at2,l1,Ck=>
  if Hr then
   av (
     if decide ((lq.length:Int)≤at2)then
      some true
     else
      av (idx lq at2) fun e1=>
      av (UW e1) fun x2=>
      some (!x2)) fun b1=>
   if b1 then
    av (nu lq at2) fun x3=>
    some ([],[],at2,x3)
   else
    av (idx lq at2) fun e2=>
    av (app Ck ([e2.text]:List Str)) fun aiO=>
    av (rQ lq (bq (at2+1)) ([58]:Str)) fun x4=>
    if !x4 then
     av (nu lq (bq (at2+1))) fun x5=>
     some ([],[],(bq (at2+1)),x5)
    else
     mD (dH lq (bq ((bq (at2+1))+1))) fun x6 jV e3=>
     if e3 !=0 then
      some ([],[],jV,e3)
     else
      av (app l1 [x6]) fun l2=>
      av (rQ lq jV CK) fun x7=>
      if x7 then
       some (l2,aiO,(bq (jV+1)),0)
      else
       av (rQ lq jV ([44]:Str)) fun x8=>
       if !x8 then
        av (nu lq jV) fun x9=>
        some ([],[],jV,x9)
       else
        sQ dH lq CK Hr dG (bq (jV+1)) l2 aiO
  else
   mD (dH lq at2) fun Kn D9 e4=>
   if e4 !=0 then
    some ([],[],D9,e4)
   else
    av (app l1 [Kn]) fun l3=>
    av (rQ lq D9 CK) fun RP=>
    if RP then
     some (l3,Ck,(bq (D9+1)),0)
    else
     av (rQ lq D9 ([44]:Str)) fun x12=>
     if !x12 then
      av (nu lq D9) fun V7=>
      some ([],[],D9,V7)
     else
      sQ dH lq CK Hr dG (bq (D9+1)) l3 Ck
def JD(dH:List ay→Int→Option (au × Int × Int))(gq:List ay→Int→Int→Option (au × Int × Int))(mX o8 qE qD:List ay→Int→Option (au × Int × Int))(nD:List ay→Int→Str→Bool→Option (List au × List Str × Int × Int))(kN:List ay→Int→Option (au × Int × Int))(lq:List ay)(cZ:Int)(CK:Str)(Hr:Bool):Option (List au × List Str × Int × Int):=
 av (rQ lq cZ CK) fun x1=>
 if x1 then
  some ([],[],(bq (cZ+1)),0)
 else
  sQ dH lq CK Hr BIG cZ [] []
def Gj(dH:List ay→Int→Option (au × Int × Int))(gq:List ay→Int→Int→Option (au × Int × Int))(mX o8 qE qD:List ay→Int→Option (au × Int × Int))(nD:List ay→Int→Str→Bool→Option (List au × List Str × Int × Int))(kN:List ay→Int→Option (au × Int × Int))(lq:List ay)(cZ:Int):Option (au × Int × Int):=
 av (idx lq cZ) fun e1=>
 if e1.text==([40]:Str)then
  mD (dH lq (bq (cZ+1))) fun x1 jV e2=>
  av (
    if e2==0 then
     av (rQ lq jV ([41]:Str)) fun x2=>
     some (!x2)
    else
     some false) fun b1=>
  if b1 then
   av (nu lq jV) fun e3=>
   if e3 !=0 then
    some ((au.mk 0 ([]:Str) (ah.mk 0 false 0 ([]:Str) [] []) [] []),jV,e3)
   else
    some (x1,(bq (jV+1)),0)
  else
   if e2 !=0 then
    some ((au.mk 0 ([]:Str) (ah.mk 0 false 0 ([]:Str) [] []) [] []),jV,e2)
   else
    some (x1,(bq (jV+1)),0)
 else
  if e1.text==([91]:Str)then
   Jp (nD lq (bq (cZ+1)) ([93]:Str) false) fun l1 x3 D9 e4=>
   some ((au.mk 9 ([]:Str) (ah.mk 0 false 0 ([]:Str) [] []) l1 []),D9,e4)
  else
   if e1.text==([123]:Str)then
    Jp (nD lq (bq (cZ+1)) ([125]:Str) true) fun l2 Ck al3 e5=>
    some ((au.mk 10 ([]:Str) (ah.mk 0 false 0 ([]:Str) [] []) l2 Ck),al3,e5)
   else
    some ((au.mk 0 ([]:Str) (ah.mk 0 false 0 ([]:Str) [] []) [] []),cZ,5)
mutual
def dF:Nat→List ay→Int→Option (au × Int × Int)
 | 0,_,_=>none
 | k+1,F6,F8=>Fw (dF k) (eF k) (jG k) (kM k) (mJ k) (nP k) (iQ k) (kC k) F6 F8
def eF:Nat→List ay→Int→Int→Option (au × Int × Int)
 | 0,_,_,_=>none
 | k+1,F6,F8,YJ=>Al (dF k) (eF k) (jG k) (kM k) (mJ k) (nP k) (iQ k) (kC k) F6 F8 YJ
def jG:Nat→List ay→Int→Option (au × Int × Int)
 | 0,_,_=>none
 | k+1,F6,F8=>Ny (dF k) (eF k) (jG k) (kM k) (mJ k) (nP k) (iQ k) (kC k) F6 F8
def kM:Nat→List ay→Int→Option (au × Int × Int)
 | 0,_,_=>none
 | k+1,F6,F8=>NA (dF k) (eF k) (jG k) (kM k) (mJ k) (nP k) (iQ k) (kC k) F6 F8
def mJ:Nat→List ay→Int→Option (au × Int × Int)
 | 0,_,_=>none
 | k+1,F6,F8=>PI (dF k) (eF k) (jG k) (kM k) (mJ k) (nP k) (iQ k) (kC k) F6 F8
def nP:Nat→List ay→Int→Option (au × Int × Int)
 | 0,_,_=>none
 | k+1,F6,F8=>JC (dF k) (eF k) (jG k) (kM k) (mJ k) (nP k) (iQ k) (kC k) F6 F8
def iQ:Nat→List ay→Int→Str→Bool→Option (List au × List Str × Int × Int)
 | 0,_,_,_,_=>none
 | k+1,F6,F8,abA,abz=>JD (dF k) (eF k) (jG k) (kM k) (mJ k) (nP k) (iQ k) (kC k) F6 F8 abA abz
def kC:Nat→List ay→Int→Option (au × Int × Int)
 | 0,_,_=>none
 | k+1,F6,F8=>Gj (dF k) (eF k) (jG k) (kM k) (mJ k) (nP k) (iQ k) (kC k) F6 F8
end
def Jc(F6:List ay)(F8:Int):Option (au × Int × Int):=dF BIG F6 F8
def PK(lq:List ay):Option (au × Int × Int):=
 mD (Jc lq 0) fun x1 cZ e1=>
 if e1 !=0 then
  some ((au.mk 0 ([]:Str) (ah.mk 0 false 0 ([]:Str) [] []) [] []),cZ,e1)
 else
  av (Me x1) fun f1=>
  if f1 !=0 then
   some ((au.mk 0 ([]:Str) (ah.mk 0 false 0 ([]:Str) [] []) [] []),0,f1)
  else
   some (x1,cZ,0)
def Mf(bL:Str):Option (au × Int × Int):=
 mD (yQ bL) fun lq cZ e1=>
 if e1 !=0 then
  some ((au.mk 0 ([]:Str) (ah.mk 0 false 0 ([]:Str) [] []) [] []),cZ,e1)
 else
  mD (PK lq) fun x1 n1 e2=>
  if (e2==0)&&(n1==(lq.length:Int))then
   some (x1,0,0)
  else
   if e2==0 then
    if decide (n1<(lq.length:Int))then
     av (idx lq n1) fun e3=>
     some ((au.mk 0 ([]:Str) (ah.mk 0 false 0 ([]:Str) [] []) [] []),e3.at_,5)
    else
     some ((au.mk 0 ([]:Str) (ah.mk 0 false 0 ([]:Str) [] []) [] []),(bL.length:Int),5)
   else
    if decide (n1<(lq.length:Int))then
     av (idx lq n1) fun e4=>
     some ((au.mk 0 ([]:Str) (ah.mk 0 false 0 ([]:Str) [] []) [] []),e4.at_,e2)
    else
     some ((au.mk 0 ([]:Str) (ah.mk 0 false 0 ([]:Str) [] []) [] []),(bL.length:Int),e2)
def qI(s1:Str):Nat→List aU→Int→Option (List aU × Int × Int)
 | 0,_,_=>none
 | dG+1,l1,cZ=>
  if decide (cZ<(s1.length:Int))then
   av (idx s1 cZ) fun x1=>
   av (
     if ((x1.toNat:Int) !=36)||(decide ((s1.length:Int)≤(bq (cZ+1))))then
      some true
     else
      av (idx s1 (bq (cZ+1))) fun x2=>
      if (x2.toNat:Int) !=36 then
       av (idx s1 (bq (cZ+1))) fun x3=>
       some ((x3.toNat:Int) !=123)
      else
       some false) fun b1=>
   if b1 then
    av (idx s1 cZ) fun c1=>
    av (Gh l1 c1) fun l2=>
    qI s1 dG l2 (bq (cZ+1))
   else
    av (idx s1 (bq (cZ+1))) fun x4=>
    if (x4.toNat:Int)==36 then
     av (Gh l1 36) fun l2=>
     qI s1 dG l2 (bq (cZ+2))
    else
     av (Nw s1 (bq (cZ+2))) fun sH=>
     if decide (sH<0)then
      some ([],cZ,4)
     else
      av (sl s1 (bq (cZ+2)) sH) fun x5=>
      mD (Mf x5) fun x6 CR e1=>
      if e1 !=0 then
       some ([],(bq ((bq (cZ+2))+CR)),e1)
      else
       av (app l1 [(aU.mk ([]:Str) true x6)]) fun l2=>
       qI s1 dG l2 (bq (sH+1))
  else
   some (l1,0,0)
def TG(s1:Str):Option (List aU × Int × Int):=
 if decide (4096<(s1.length:Int))then
  some ([],0,3)
 else
  qI s1 BIG [] 0
end Go.Ft
