/- Proved here: nothing: further functional texts, as our program wrote them. -/
import Derived.Test.YtpbjbkhfpjckoaaGreatDoorIjFt1
set_option linter.unusedVariables false
set_option linter.unusedSimpArgs false
set_option linter.defProp false
set_option linter.unusedSectionVars false
namespace Go.Ft
open Go
def Fw(BH:ak→Option Int)(e1:ak):Nat→Int→Int→Option Int
 | 0,_,_=>none
 | dL+1,n1,i1=>
 if decide (i1<(e1.args.length:Int))then
  av (idx e1.args i1) fun e2=>
  av (BH e2) fun x1=>
  Fw BH e1 dL (bV (n1+x1)) (bV (i1+1))
 else
  some n1
def OA(BH:ak→Option Int)(e1:ak):Option Int:=
 Fw BH e1 BIG 1 0
def xu:Nat→ak→Option Int
 | 0,_=>none
 | k+1,kS=>OA (xu k) kS
def Nf(kS:ak):Option Int:=xu BIG kS
def KD(c1:UInt8):Option Bool:=
 some ((((decide (97≤(c1.toNat:Int)))&&(decide ((c1.toNat:Int)≤122)))||((decide (65≤(c1.toNat:Int)))&&(decide ((c1.toNat:Int)≤90))))||((c1.toNat:Int)==95))
def Cb(c1:UInt8):Option Bool:=
 some ((decide (48≤(c1.toNat:Int)))&&(decide ((c1.toNat:Int)≤57)))
def H8(s1:Str):Nat→Int→Option Bool
 | 0,_=>none
 | dL+1,i1=>
 if decide (i1<(s1.length:Int))then
  av (idx s1 i1) fun x1=>
  av (KD x1) fun x2=>
  av (
   if !x2 then
   if i1==0 then
    some true
   else
    av (idx s1 i1) fun x3=>
    av (Cb x3) fun x4=>
    some (!x4)
   else
   some false) fun b1=>
  if b1 then
  some false
  else
  H8 s1 dL (bV (i1+1))
 else
  some ((decide (1≤(s1.length:Int)))&&(decide ((s1.length:Int)≤64)))
def Q8(s1:Str):Option Bool:=
 H8 s1 BIG 0
def zm(s1:Str):Option Bool:=
 av (Q8 s1) fun x1=>
 some (((x1&&(!(s1==([116,114,117,101]:Str))))&&(!(s1==([102,97,108,115,101]:Str))))&&(!(s1==([110,117,108,108]:Str))))
def Vi(jJ:Int):Option Bool:=
 some ((jJ==5)||(jJ==6))
def OB(Xf:aI→Int→Option Int)(t1:aI)(b_:Int):Option Int:=
 if decide (16<b_)then
 some 13
 else
 if (decide (t1.kind<0))||(decide (7<t1.kind))then
  some 1
 else
  av (Vi t1.kind) fun x1=>
  if !x1 then
  if decide (0<(t1.elem.length:Int))then
   some 1
  else
   some 0
  else
  if (t1.elem.length:Int) !=1 then
   some 1
  else
   av (idx t1.elem 0) fun e1=>
   Xf e1 (bV (b_+1))
def DN:Nat→aI→Int→Option Int
 | 0,_,_=>none
 | k+1,ZU,lQ=>OB (DN k) ZU lQ
def adk(ZU:aI)(lQ:Int):Option Int:=DN BIG ZU lQ
def Ng(t1:aI):Option Int:=
 adk t1 1
def Nb(e1:ak):Option Bool:=
 if e1.kind==1 then
 some ((e1.args.length:Int)==0)
 else
 if e1.kind==2 then
  some ((e1.args.length:Int)==0)
 else
  if e1.kind==3 then
  some ((e1.args.length:Int)==1)
  else
  if e1.kind==6 then
   some ((e1.args.length:Int)==1)
  else
   if e1.kind==4 then
   some ((e1.args.length:Int)==2)
   else
   if e1.kind==7 then
    some ((e1.args.length:Int)==2)
   else
    if e1.kind==8 then
    some ((e1.args.length:Int)==3)
    else
    some (((e1.kind==5)||(e1.kind==9))||(e1.kind==10))
def Bl(op1:Str):Option Int:=
 if op1==([124,124]:Str)then
 some 2
 else
 if op1==([38,38]:Str)then
  some 3
 else
  if op1==([61,61]:Str)then
  some 4
  else
  if op1==([33,61]:Str)then
   some 4
  else
   if op1==([60]:Str)then
   some 4
   else
   if op1==([60,61]:Str)then
    some 4
   else
    if op1==([62]:Str)then
    some 4
    else
    if op1==([62,61]:Str)then
     some 4
    else
     if op1==([43]:Str)then
     some 5
     else
     if op1==([45]:Str)then
      some 5
     else
      if op1==([42]:Str)then
      some 6
      else
      if op1==([47]:Str)then
       some 6
      else
       if op1==([37]:Str)then
       some 6
       else
       some 0
def Na(e1:ak):Option Bool:=
 if e1.kind==2 then
 zm e1.name
 else
 if e1.kind==3 then
  zm e1.name
 else
  if e1.kind==5 then
  zm e1.name
  else
  if e1.kind==6 then
   some ((e1.name==([33]:Str))||(e1.name==([45]:Str)))
  else
   if e1.kind==7 then
   av (Bl e1.name) fun x4=>
   some (decide (0<x4))
   else
   some (e1.name==([]:Str))
def H_(uy:ah→ah→Option Bool)(a1 b1:ah):Nat→Int→Option Bool
 | 0,_=>none
 | Y0+1,i2=>
 if decide (i2<(a1.aN.length:Int))then
  av (idx a1.aN i2) fun e3=>
  av (idx b1.aN i2) fun e4=>
  av (uy e3 e4) fun x1=>
  if !x1 then
  some false
  else
  H_ uy a1 b1 Y0 (bV (i2+1))
 else
  some true
def Ia(uy:ah→ah→Option Bool)(a1 b1:ah):Nat→Int→Option Bool
 | 0,_=>none
 | dL+1,i1=>
 if decide (i1<(a1.keys.length:Int))then
  av (idx a1.keys i1) fun e1=>
  av (idx b1.keys i1) fun e2=>
  if !(e1==e2)then
  some false
  else
  Ia uy a1 b1 dL (bV (i1+1))
 else
  H_ uy a1 b1 BIG 0
def Ra(uy:ah→ah→Option Bool)(a1 b1:ah):Option Bool:=
 if (((((a1.kind !=b1.kind)||(!(a1.dR==b1.dR)))||(a1.dA !=b1.dA))||(!(a1.bR==b1.bR)))||((a1.aN.length:Int) !=(b1.aN.length:Int)))||((a1.keys.length:Int) !=(b1.keys.length:Int))then
 some false
 else
 Ia uy a1 b1 BIG 0
def KE:Nat→ah→ah→Option Bool
 | 0,_,_=>none
 | k+1,Hg,Hf=>Ra (KE k) Hg Hf
def Rb(Hg Hf:ah):Option Bool:=KE BIG Hg Hf
def zN(e1:ak):Nat→Int→Option Bool
 | 0,_=>none
 | dL+1,i1=>
 if decide (i1<(e1.keys.length:Int))then
  av (idx e1.keys i1) fun e2=>
  av (
   if decide ((e2.length:Int)<1)then
   some true
   else
   av (idx e1.keys i1) fun e3=>
   some (decide (64<(e3.length:Int)))) fun b4=>
  if b4 then
  some false
  else
  zN e1 dL (bV (i1+1))
 else
  some ((e1.keys.length:Int)==(e1.args.length:Int))
def KA(e1:ak):Option Bool:=
 av (Nb e1) fun x1=>
 av (
  if !x1 then
  some true
  else
  av (Na e1) fun x2=>
  some (!x2)) fun b1=>
 av (
  if b1 then
  some true
  else
  if e1.kind !=1 then
   av (Rb e1.value (ah.mk 0 false 0 ([]:Str) [] [])) fun x3=>
   some (!x3)
  else
   some false) fun b2=>
 if b2 then
 some false
 else
 if e1.kind !=10 then
  some ((e1.keys.length:Int)==0)
 else
  zN e1 BIG 0
def Nh(v1:ah):Option Bool:=
 if ((v1.dR&&(v1.kind !=1))||((v1.dA !=0)&&(v1.kind !=2)))||((!(v1.bR==([]:Str)))&&(v1.kind !=3))then
 some false
 else
 if ((decide (0<(v1.aN.length:Int)))&&(v1.kind !=4))&&(v1.kind !=5)then
  some false
 else
  some (((v1.keys.length:Int)==0)||(v1.kind==5))
def PL(s1:Str):Option Bool:=
 some ((decide (1≤(s1.length:Int)))&&(decide ((s1.length:Int)≤64)))
def zo(ab9 agh:Bool):Option Int:=
 if ab9 then
 some (-1)
 else
 if agh then
  some 1
 else
  some 0
def JB(c1:UInt8):Option Bool:=
 some ((decide (48≤(c1.toNat:Int)))&&(decide ((c1.toNat:Int)≤57)))
def KF(s1:Str):Nat→Int→Option Int
 | 0,_=>none
 | dL+1,at2=>
 av (
  if decide (at2<(s1.length:Int))then
   av (idx s1 at2) fun x1=>
   JB x1
  else
   some false) fun b1=>
 if b1 then
  KF s1 dL (bV (at2+1))
 else
  some at2
def WJ(s1:Str)(jd:Int):Option Int:=
 KF s1 BIG jd
def Bp(s1:Str):Nat→Int→Option Str
 | 0,_=>none
 | dL+1,i1=>
 av (
  if decide (i1<(s1.length:Int))then
   av (idx s1 i1) fun x1=>
   some ((x1.toNat:Int)==48)
  else
   some false) fun b1=>
 if b1 then
  Bp s1 dL (bV (i1+1))
 else
  sl s1 i1 (s1.length:Int)
def JA(s1:Str):Option Str:=
 Bp s1 BIG 0
def Rc(a1 b1:Str):Option Int:=
 av (JA a1) fun x1=>
 av (JA b1) fun y1=>
 if (x1.length:Int) !=(y1.length:Int)then
 zo (decide ((x1.length:Int)<(y1.length:Int))) (decide ((y1.length:Int)<(x1.length:Int)))
 else
 if !(x1==y1)then
  zo (Go.Op.bytesLess x1 y1) (!(Go.Op.bytesLess x1 y1||x1==y1))
 else
  zo (decide ((a1.length:Int)<(b1.length:Int))) (decide ((b1.length:Int)<(a1.length:Int)))
def qG(a1 b1:Str):Nat→Int→Int→Option Int
 | 0,_,_=>none
 | dL+1,i1,GY=>
 if (decide (i1<(a1.length:Int)))&&(decide (GY<(b1.length:Int)))then
  av (idx a1 i1) fun x1=>
  av (idx b1 GY) fun x2=>
  av (idx a1 i1) fun x3=>
  av (idx b1 GY) fun x4=>
  av (zo (decide ((x1.toNat:Int)<(x2.toNat:Int))) (decide ((x4.toNat:Int)<(x3.toNat:Int)))) fun c1=>
  av (idx a1 i1) fun x5=>
  av (JB x5) fun x6=>
  av (
   if x6 then
   av (idx b1 GY) fun x7=>
   JB x7
   else
   some false) fun b2=>
  if b2 then
  av (WJ a1 i1) fun m1=>
  av (WJ b1 GY) fun n1=>
  av (sl a1 i1 m1) fun x9=>
  av (sl b1 GY n1) fun EB=>
  av (Rc x9 EB) fun c2=>
  if c2 !=0 then
   some c2
  else
   qG a1 b1 dL m1 n1
  else
  if c1 !=0 then
   some c1
  else
   qG a1 b1 dL (bV (i1+1)) (bV (GY+1))
 else
  zo (decide (GY<(b1.length:Int))) (decide (i1<(a1.length:Int)))
def qY(a1 b1:Str):Option Int:=
 qG a1 b1 BIG 0 0
def uU(v1:ah):Nat→Int→Option Bool
 | 0,_=>none
 | dL+1,i1=>
 if decide (i1<(v1.keys.length:Int))then
  av (idx v1.keys i1) fun e1=>
  av (PL e1) fun x1=>
  av (
   if !x1 then
   some true
   else
   if decide (0<i1)then
    av (idx v1.keys (bV (i1-1))) fun e2=>
    av (idx v1.keys i1) fun e3=>
    av (qY e2 e3) fun x2=>
    some (decide (0≤x2))
   else
    some false) fun b1=>
  if b1 then
  some false
  else
  uU v1 dL (bV (i1+1))
 else
  some ((v1.keys.length:Int)==(v1.aN.length:Int))
def Eo(v1:ah):Option Bool:=
 uU v1 BIG 0
def Fy(BI:ah→Int→Option Int)(v1:ah)(b_:Int):Nat→Int→Option Int
 | 0,_=>none
 | dL+1,i1=>
 if decide (i1<(v1.aN.length:Int))then
  av (idx v1.aN i1) fun e1=>
  av (BI e1 (bV (b_+1))) fun e2=>
  if e2 !=0 then
  some e2
  else
  Fy BI v1 b_ dL (bV (i1+1))
 else
  some 0
def OE(BI:ah→Int→Option Int)(v1:ah)(b_:Int):Option Int:=
 if decide (16<b_)then
 some 13
 else
 av (
  if (decide (v1.kind<0))||(decide (5<v1.kind))then
   some true
  else
   av (Nh v1) fun x1=>
   some (!x1)) fun b1=>
 if b1 then
  some 1
 else
  if (decide (v1.dA<(-9007199254740992)))||(decide (9007199254740992<v1.dA))then
  some 2
  else
  if ((decide (4096<(v1.bR.length:Int)))||(decide (1024<(v1.aN.length:Int))))||(decide (1024<(v1.keys.length:Int)))then
   some 3
  else
   av (
    if v1.kind==5 then
    av (Eo v1) fun x2=>
    some (!x2)
    else
    some false) fun b2=>
   if b2 then
   some 1
   else
   if ((decide (4≤v1.kind))&&((v1.aN.length:Int)==0))&&(b_==16)then
    some 13
   else
    Fy BI v1 b_ BIG 0
def xw:Nat→ah→Int→Option Int
 | 0,_,_=>none
 | k+1,wP,lQ=>OE (xw k) wP lQ
def Vj(wP:ah)(lQ:Int):Option Int:=xw BIG wP lQ
def Cc(v1:ah):Option Int:=
 Vj v1 1
def Bj(Mg:List Str)(i1:Int)(Gs:Int→Option Bool):Nat→Int→Option Bool
 | 0,_=>none
 | Y0+1,GY=>
 if decide (GY<i1)then
  av (idx Mg i1) fun e1=>
  av (idx Mg GY) fun e2=>
  if e1==e2 then
  some true
  else
  Bj Mg i1 Gs Y0 (bV (GY+1))
 else
  Gs (bV (i1+1))
def xS(Mg:List Str):Nat→Int→Option Bool
 | 0,_=>none
 | dL+1,i1=>
 if decide (i1<(Mg.length:Int))then
  Bj Mg i1 (xS Mg dL) BIG 0
 else
  some false
def M_(Mg:List Str):Option Bool:=
 xS Mg BIG 0
def Fu(BG:ak→Int→Option Int)(e1:ak)(b_:Int):Nat→Int→Option Int
 | 0,_=>none
 | dL+1,i1=>
 if decide (i1<(e1.args.length:Int))then
  av (idx e1.args i1) fun e2=>
  av (BG e2 (bV (b_+1))) fun f2=>
  if f2 !=0 then
  some f2
  else
  Fu BG e1 b_ dL (bV (i1+1))
 else
  some 0
def Oz(BG:ak→Int→Option Int)(e1:ak)(b_:Int):Option Int:=
 if decide (16<b_)then
 some 13
 else
 av (KA e1) fun x1=>
 if !x1 then
  some 1
 else
  av (Cc e1.value) fun f1=>
  if (e1.kind==1)&&(f1 !=0)then
  some f1
  else
  if decide (1024<(e1.args.length:Int))then
   some 3
  else
   av (M_ e1.keys) fun x2=>
   if x2 then
   some 7
   else
   Fu BG e1 b_ BIG 0
def xq:Nat→ak→Int→Option Int
 | 0,_,_=>none
 | k+1,kS,lQ=>Oz (xq k) kS lQ
def Vh(kS:ak)(lQ:Int):Option Int:=xq BIG kS lQ
def Nc(e1:ak):Option Int:=
 av (Nf e1) fun x1=>
 if decide (4096<x1)then
 some 15
 else
 Vh e1 1
def LP(name1:Str):Option Int:=
 if name1==([108,101,110]:Str)then
 some 1
 else
 if name1==([108,111,119,101,114]:Str)then
  some 1
 else
  if name1==([117,112,112,101,114]:Str)then
  some 1
  else
  if name1==([115,116,114,105,110,103]:Str)then
   some 1
  else
   if name1==([105,110,116]:Str)then
   some 1
   else
   if name1==([107,101,121,115]:Str)then
    some 1
   else
    if name1==([99,111,110,116,97,105,110,115]:Str)then
    some 2
    else
    if name1==([106,111,105,110]:Str)then
     some 2
    else
     if name1==([115,112,108,105,116]:Str)then
     some 2
     else
     if name1==([115,116,97,114,116,115,119,105,116,104]:Str)then
      some 2
     else
      if name1==([101,110,100,115,119,105,116,104]:Str)then
      some 2
      else
      if name1==([100,101,102,97,117,108,116]:Str)then
       some 2
      else
       some (-1)
def Fq(eY:List aB)(i1:Int)(Ka:Int→Option Int):Nat→Int→Option Int
 | 0,_=>none
 | Y0+1,GY=>
 if decide (GY<i1)then
  av (idx eY GY) fun e4=>
  av (idx eY i1) fun e5=>
  if e4.name==e5.name then
  some 7
  else
  Fq eY i1 Ka Y0 (bV (GY+1))
 else
  Ka (bV (i1+1))
def CB(eY:List aB):Nat→Int→Option Int
 | 0,_=>none
 | dL+1,i1=>
 if decide (i1<(eY.length:Int))then
  av (idx eY i1) fun e1=>
  av (zm e1.name) fun x1=>
  if !x1 then
  some 1
  else
  av (idx eY i1) fun e2=>
  av (Cc e2.value) fun e3=>
  if e3 !=0 then
   some e3
  else
   Fq eY i1 (CB eY dL) BIG 0
 else
  some 0
def WH(eY:List aB):Option Int:=
 if decide (1024<(eY.length:Int))then
 some 3
 else
 CB eY BIG 0
def pJ(s1:Str):Option ah:=
 some (ah.mk 3 false 0 s1 [] [])
def FD(v1:ah)(key1:Str):Nat→Int→Option (ah × Bool)
 | 0,_=>none
 | dL+1,i1=>
 if decide (i1<(v1.keys.length:Int))then
  av (idx v1.keys i1) fun e1=>
  if e1==key1 then
  if decide ((v1.aN.length:Int)≤i1)then
   some ((ah.mk 0 false 0 ([]:Str) [] []),false)
  else
   av (idx v1.aN i1) fun e2=>
   some (e2,true)
  else
  FD v1 key1 dL (bV (i1+1))
 else
  some ((ah.mk 0 false 0 ([]:Str) [] []),false)
def LV(v1:ah)(key1:Str):Option (ah × Bool):=
 if v1.kind !=5 then
 some ((ah.mk 0 false 0 ([]:Str) [] []),false)
 else
 FD v1 key1 BIG 0
def Jy(a1 b1:ah):Option (ah × Int):=
 if (a1.kind==4)&&(b1.kind==2)then
 if (decide (b1.dA<0))||(decide ((a1.aN.length:Int)≤b1.dA))then
  some ((ah.mk 0 false 0 ([]:Str) [] []),8)
 else
  av (idx a1.aN b1.dA) fun e1=>
  some (e1,0)
 else
 if (a1.kind !=5)||(b1.kind !=3)then
  some ((ah.mk 0 false 0 ([]:Str) [] []),9)
 else
  fI (LV a1 b1.bR) fun x1 ok1=>
  if !ok1 then
  some ((ah.mk 0 false 0 ([]:Str) [] []),8)
  else
  some (x1,0)
def zP(Iz:Int→Option Str)(n1:Int):Option Str:=
 if decide (n1<0)then
 if decide ((-10)<n1)then
  app ([45]:Str) ([(Ft.byteOf (bV (48-n1)))]:List UInt8)
 else
  av (Iz (bV ((n1:Int).tdiv 10))) fun x2=>
  app x2 ([(Ft.byteOf (bV (48-((n1:Int).tmod 10))))]:List UInt8)
 else
 if decide (n1<10)then
  some ([(Ft.byteOf (bV (48+n1)))]:List UInt8)
 else
  av (Iz (bV ((n1:Int).tdiv 10))) fun x4=>
  app x4 ([(Ft.byteOf (bV (48+((n1:Int).tmod 10))))]:List UInt8)
def mQ:Nat→Int→Option Str
 | 0,_=>none
 | k+1,ZW=>zP (mQ k) ZW
def Ib(ZW:Int):Option Str:=mQ BIG ZW
def Ua(c1:UInt8):Option Str:=
 if (c1.toNat:Int)==34 then
 some ([92,34]:List UInt8)
 else
 if (c1.toNat:Int)==92 then
  some ([92,92]:List UInt8)
 else
  if (c1.toNat:Int)==10 then
  some ([92,110]:List UInt8)
  else
  if (c1.toNat:Int)==9 then
   some ([92,116]:List UInt8)
  else
   if (decide (32≤(c1.toNat:Int)))&&(decide ((c1.toNat:Int)≤126))then
   some ([c1]:List UInt8)
   else
   av (idx ([48,49,50,51,52,53,54,55,56,57,97,98,99,100,101,102]:Str) ((c1/16).toNat:Int)) fun x1=>
   av (idx ([48,49,50,51,52,53,54,55,56,57,97,98,99,100,101,102]:Str) ((c1%16).toNat:Int)) fun x2=>
   some ([92,120,x1,x2]:List UInt8)
def LQ(s1:Str):Nat→Str→Int→Option Str
 | 0,_,_=>none
 | dL+1,bD,i1=>
 if decide (i1<(s1.length:Int))then
  av (idx s1 i1) fun x1=>
  av (Ua x1) fun x2=>
  av (app bD x2) fun xI=>
  LQ s1 dL xI (bV (i1+1))
 else
  app bD ([34]:List UInt8)
def Nj(s1:Str):Option Str:=
 LQ s1 BIG ([34]:List UInt8) 0
def tX(lg:ah→Option Str)(v1:ah):Nat→Str→Int→Option Str
 | 0,_,_=>none
 | dL+1,s1,i1=>
 if decide (i1<(v1.aN.length:Int))then
  if decide (0<i1)then
  av (app s1 ([44,32]:Str)) fun s2=>
  if v1.kind==5 then
   av (idx v1.keys i1) fun e1=>
   av (Nj e1) fun x3=>
   av (app s2 x3) fun x4=>
   av (app x4 ([58,32]:Str)) fun s3=>
   av (idx v1.aN i1) fun e2=>
   av (lg e2) fun x5=>
   av (app s3 x5) fun s4=>
   tX lg v1 dL s4 (bV (i1+1))
  else
   av (idx v1.aN i1) fun e3=>
   av (lg e3) fun x6=>
   av (app s2 x6) fun s5=>
   tX lg v1 dL s5 (bV (i1+1))
  else
  if v1.kind==5 then
   av (idx v1.keys i1) fun e4=>
   av (Nj e4) fun x7=>
   av (app s1 x7) fun x8=>
   av (app x8 ([58,32]:Str)) fun s6=>
   av (idx v1.aN i1) fun e5=>
   av (lg e5) fun x9=>
   av (app s6 x9) fun s7=>
   tX lg v1 dL s7 (bV (i1+1))
  else
   av (idx v1.aN i1) fun e6=>
   av (lg e6) fun EB=>
   av (app s1 EB) fun s8=>
   tX lg v1 dL s8 (bV (i1+1))
 else
  if v1.kind==5 then
  av (app ([123]:Str) s1) fun La=>
  app La ([125]:Str)
  else
  av (app ([91]:Str) s1) fun OY=>
  app OY ([93]:Str)
def J6(lg:ah→Option Str)(v1:ah):Option Str:=
 if v1.kind==0 then
 some ([110,117,108,108]:Str)
 else
 if v1.kind==1 then
  if v1.dR then
  some ([116,114,117,101]:Str)
  else
  some ([102,97,108,115,101]:Str)
 else
  if v1.kind==2 then
  Ib v1.dA
  else
  if v1.kind==3 then
   Nj v1.bR
  else
   tX lg v1 BIG ([]:Str) 0
def Em:Nat→ah→Option Str
 | 0,_=>none
 | k+1,wP=>J6 (Em k) wP
def OC(wP:ah):Option Str:=Em BIG wP
def Q_(v1:ah):Option (Str × Int):=
 if (v1.kind==4)||(v1.kind==5)then
 some (([]:Str),9)
 else
 av (Cc v1) fun e1=>
 if e1 !=0 then
  some (([]:Str),e1)
 else
  if v1.kind==0 then
  some (([]:Str),0)
  else
  if v1.kind==3 then
   some (v1.bR,0)
  else
   av (OC v1) fun x1=>
   some (x1,0)
def Bg(s1:Str)(Sj YX:UInt8)(Ea:Int):Nat→List UInt8→Int→Option Str
 | 0,_,_=>none
 | dL+1,b1,i1=>
 if decide (i1<(s1.length:Int))then
  av (idx s1 i1) fun c1=>
  if (decide ((Sj.toNat:Int)≤(c1.toNat:Int)))&&(decide ((c1.toNat:Int)≤(YX.toNat:Int)))then
  av (app b1 ([(Ft.byteOf (bV ((c1.toNat:Int)+Ea)))]:List UInt8)) fun b2=>
  Bg s1 Sj YX Ea dL b2 (bV (i1+1))
  else
  av (app b1 ([c1]:List UInt8)) fun b3=>
  Bg s1 Sj YX Ea dL b3 (bV (i1+1))
 else
  some b1
def Jz(s1:Str)(Sj YX:UInt8)(Ea:Int):Option Str:=
 Bg s1 Sj YX Ea BIG [] 0
def zn(s1:Str):Nat→Int→Int→Option (Int × Bool)
 | 0,_,_=>none
 | dL+1,n1,i1=>
 if decide (i1<(s1.length:Int))then
  av (idx s1 i1) fun x2=>
  av (Cb x2) fun x3=>
  if !x3 then
  some (0,false)
  else
  av (idx s1 i1) fun x4=>
  zn s1 dL (bV ((bV ((bV (10*n1))+(x4.toNat:Int)))-48)) (bV (i1+1))
 else
  some (n1,(decide (n1≤9007199254740992)))
def DL(s1:Str):Option (Int × Bool):=
 av (
  if (s1==([]:Str))||(decide (16<(s1.length:Int)))then
  some true
  else
  if decide (1<(s1.length:Int))then
   av (idx s1 0) fun x1=>
   some ((x1.toNat:Int)==48)
  else
   some false) fun b1=>
 if b1 then
 some (0,false)
 else
 zn s1 BIG 0 0
def Cz(s1:Str):Option (Int × Bool):=
 av (
  if !(s1==([]:Str))then
  av (idx s1 0) fun x1=>
  some ((x1.toNat:Int)==45)
  else
  some false) fun b1=>
 if b1 then
 av (sl s1 1 (s1.length:Int)) fun x2=>
 fI (DL x2) fun n1 ok1=>
 some ((bV (0-n1)),(ok1&&(n1 !=0)))
 else
 DL s1
def Fj(a1:ah):Nat→Int→ah→Option (ah × Int)
 | 0,_,_=>none
 | dL+1,i1,v1=>
 if decide (i1<(a1.keys.length:Int))then
  av (idx a1.keys i1) fun e1=>
  av (pJ e1) fun x1=>
  av (app v1.aN [x1]) fun x2=>
  Fj a1 dL (bV (i1+1)) (ah.mk v1.kind v1.dR v1.dA v1.bR x2 v1.keys)
 else
  some (v1,0)
def WG(name1:Str)(a1:ah):Option (ah × Int):=
 if (name1==([108,101,110]:Str))&&(decide (3≤a1.kind))then
 some ((ah.mk 2 false (bV ((a1.bR.length:Int)+(a1.aN.length:Int))) ([]:Str) [] []),0)
 else
 if (name1==([107,101,121,115]:Str))&&(a1.kind==5)then
  Fj a1 BIG 0 (ah.mk 4 false 0 ([]:Str) [] [])
 else
  if name1==([115,116,114,105,110,103]:Str)then
  fI (Q_ a1) fun s2 e2=>
  if e2 !=0 then
   some ((ah.mk 0 false 0 ([]:Str) [] []),e2)
  else
   av (pJ s2) fun x3=>
   some (x3,0)
  else
  if ((a1.kind !=3)||(name1==([108,101,110]:Str)))||(name1==([107,101,121,115]:Str))then
   some ((ah.mk 0 false 0 ([]:Str) [] []),9)
  else
   if name1==([108,111,119,101,114]:Str)then
   av (Jz a1.bR 65 90 32) fun x4=>
   av (pJ x4) fun x5=>
   some (x5,0)
   else
   if name1==([117,112,112,101,114]:Str)then
    av (Jz a1.bR 97 122 (-32)) fun x6=>
    av (pJ x6) fun x7=>
    some (x7,0)
   else
    fI (Cz a1.bR) fun n1 ok1=>
    if !ok1 then
    some ((ah.mk 0 false 0 ([]:Str) [] []),1)
    else
    some ((ah.mk 2 false n1 ([]:Str) [] []),0)
def oO(aiL:Bool):Option Int:=
 if aiL then
 some (-1)
 else
 some 1
def Bn(a1 b1:List Str):Nat→Int→Option Int
 | 0,_=>none
 | dL+1,i1=>
 if (decide (i1<(a1.length:Int)))&&(decide (i1<(b1.length:Int)))then
  av (idx a1 i1) fun e1=>
  av (idx b1 i1) fun e2=>
  av (qY e1 e2) fun c1=>
  if c1 !=0 then
  oO (decide (c1<0))
  else
  Bn a1 b1 dL (bV (i1+1))
 else
  if (a1.length:Int)==(b1.length:Int)then
  some 0
  else
  oO (decide ((a1.length:Int)<(b1.length:Int)))
def Ni(a1 b1:List Str):Option Int:=
 Bn a1 b1 BIG 0
def J7(uz:ah→ah→Option Int)(FW:List ah→List ah→Option Int)(a1 b1:ah):Option Int:=
 if a1.kind !=b1.kind then
 oO (decide (a1.kind<b1.kind))
 else
 if a1.kind==1 then
  if !(a1.dR==b1.dR)then
  oO b1.dR
  else
  some 0
 else
  if a1.kind==2 then
  if a1.dA !=b1.dA then
   oO (decide (a1.dA<b1.dA))
  else
   some 0
  else
  if a1.kind==3 then
   if !(a1.bR==b1.bR)then
   oO (Go.Op.bytesLess a1.bR b1.bR)
   else
   some 0
  else
   if a1.kind==4 then
   FW a1.aN b1.aN
   else
   if a1.kind==5 then
    av (Ni a1.keys b1.keys) fun c1=>
    if c1 !=0 then
    some c1
    else
    FW a1.aN b1.aN
   else
    some 0
def Bo(uz:ah→ah→Option Int)(a1 b1:List ah):Nat→Int→Option Int
 | 0,_=>none
 | dL+1,i1=>
 if (decide (i1<(a1.length:Int)))&&(decide (i1<(b1.length:Int)))then
  av (idx a1 i1) fun e1=>
  av (idx b1 i1) fun e2=>
  av (uz e1 e2) fun c1=>
  if c1 !=0 then
  some c1
  else
  Bo uz a1 b1 dL (bV (i1+1))
 else
  if (a1.length:Int)==(b1.length:Int)then
  some 0
  else
  oO (decide ((a1.length:Int)<(b1.length:Int)))
def OD(uz:ah→ah→Option Int)(FW:List ah→List ah→Option Int)(a1 b1:List ah):Option Int:=
 Bo uz a1 b1 BIG 0
mutual
def oz:Nat→ah→ah→Option Int
 | 0,_,_=>none
 | k+1,Hg,Hf=>J7 (oz k) (H9 k) Hg Hf
def H9:Nat→List ah→List ah→Option Int
 | 0,_,_=>none
 | k+1,Hg,Hf=>OD (oz k) (H9 k) Hg Hf
end
def Ic(Hg Hf:ah):Option Int:=oz BIG Hg Hf
def Ce(a1 b1:ah):Option Bool:=
 av (Ic a1 b1) fun x1=>
 some (x1==0)
def jP(b1:Bool):Option ah:=
 some (ah.mk 1 b1 0 ([]:Str) [] [])
def DJ(s1 t1:Str):Nat→Int→Option Int
 | 0,_=>none
 | dL+1,i1=>
 if decide ((bV (i1+(t1.length:Int)))≤(s1.length:Int))then
  av (sl s1 i1 (bV (i1+(t1.length:Int)))) fun x1=>
  if x1==t1 then
  some i1
  else
  DJ s1 t1 dL (bV (i1+1))
 else
  some (-1)
def Hz(s1 t1:Str)(ach:Int):Option Int:=
 DJ s1 t1 BIG ach
def wD(a1 b1:ah):Nat→Int→Option (ah × Int)
 | 0,_=>none
 | dL+1,i1=>
 if decide (i1<(a1.aN.length:Int))then
  av (idx a1.aN i1) fun e1=>
  av (Ce e1 b1) fun x1=>
  if x1 then
  av (jP true) fun x2=>
  some (x2,0)
  else
  wD a1 b1 dL (bV (i1+1))
 else
  av (jP false) fun x3=>
  some (x3,0)
def Fp(a1 b1:ah):Option (ah × Int):=
 if a1.kind==4 then
 wD a1 b1 BIG 0
 else
 if (b1.kind !=3)||((a1.kind !=3)&&(a1.kind !=5))then
  some ((ah.mk 0 false 0 ([]:Str) [] []),9)
 else
  if a1.kind==5 then
  fI (LV a1 b1.bR) fun x4 ok1=>
  av (jP ok1) fun x5=>
  some (x5,0)
  else
  av (Hz a1.bR b1.bR 0) fun x6=>
  av (jP (decide (0≤x6))) fun x7=>
  some (x7,0)
def Ep(zS:ah→Option Int)(v1:ah):Nat→Int→Int→Option Int
 | 0,_,_=>none
 | dL+1,n1,i1=>
 if decide (i1<(v1.aN.length:Int))then
  av (idx v1.aN i1) fun e1=>
  av (zS e1) fun x1=>
  Ep zS v1 dL (if n1<(bV (1+x1))then (bV (1+x1))else n1) (bV (i1+1))
 else
  some n1
def LU(zS:ah→Option Int)(v1:ah):Option Int:=
 if (v1.kind !=4)&&(v1.kind !=5)then
 some 1
 else
 Ep zS v1 BIG 2 0
def uV:Nat→ah→Option Int
 | 0,_=>none
 | k+1,wP=>LU (uV k) wP
def FC(wP:ah):Option Int:=uV BIG wP
def lI(v1:ah):Option (ah × Int):=
 if (decide (v1.dA<(-9007199254740992)))||(decide (9007199254740992<v1.dA))then
 some ((ah.mk 0 false 0 ([]:Str) [] []),11)
 else
 if (decide (4096<(v1.bR.length:Int)))||(decide (1024<(v1.aN.length:Int)))then
  some ((ah.mk 0 false 0 ([]:Str) [] []),3)
 else
  av (FC v1) fun x1=>
  if decide (16<x1)then
  some ((ah.mk 0 false 0 ([]:Str) [] []),13)
  else
  some (v1,0)
def xk(a1 b1:ah):Nat→Str→Int→Option (ah × Int)
 | 0,_,_=>none
 | dL+1,s1,i1=>
 if decide (i1<(a1.aN.length:Int))then
  av (idx a1.aN i1) fun e1=>
  if e1.kind !=3 then
  some ((ah.mk 0 false 0 ([]:Str) [] []),9)
  else
  if decide (0<i1)then
   av (app s1 b1.bR) fun s2=>
   av (idx a1.aN i1) fun e2=>
   av (app s2 e2.bR) fun s3=>
   xk a1 b1 dL s3 (bV (i1+1))
  else
   av (idx a1.aN i1) fun e3=>
   av (app s1 e3.bR) fun s4=>
   xk a1 b1 dL s4 (bV (i1+1))
 else
  av (pJ s1) fun x1=>
  lI x1
def QY(a1 b1:ah):Option (ah × Int):=
 if (a1.kind !=4)||(b1.kind !=3)then
 some ((ah.mk 0 false 0 ([]:Str) [] []),9)
 else
 xk a1 b1 BIG ([]:Str) 0
def Bf(s1 Ea:Str):Nat→List ah→Int→Int→Option (ah × Int)
 | 0,_,_,_=>none
 | dL+1,l1,ach,at2=>
 if decide (0≤at2)then
  av (sl s1 ach at2) fun x1=>
  av (pJ x1) fun x2=>
  av (app l1 [x2]) fun l2=>
  av (Hz s1 Ea (bV (at2+(Ea.length:Int)))) fun at3=>
  Bf s1 Ea dL l2 (bV (at2+(Ea.length:Int))) at3
 else
  av (sl s1 ach (s1.length:Int)) fun x3=>
  av (pJ x3) fun x4=>
  av (app l1 [x4]) fun x5=>
  lI (ah.mk 4 false 0 ([]:Str) x5 [])
def EK(s1 Ea:Str):Option (ah × Int):=
 if Ea==([]:Str)then
 some ((ah.mk 0 false 0 ([]:Str) [] []),1)
 else
 av (Hz s1 Ea 0) fun jd=>
 Bf s1 Ea BIG [] 0 jd
def WE(name1:Str)(a1 b1:ah):Option (ah × Int):=
 if name1==([99,111,110,116,97,105,110,115]:Str)then
 Fp a1 b1
 else
 if name1==([106,111,105,110]:Str)then
  QY a1 b1
 else
  if name1==([100,101,102,97,117,108,116]:Str)then
  if a1.kind==0 then
   some (b1,0)
  else
   some (a1,0)
  else
  if (a1.kind !=3)||(b1.kind !=3)then
   some ((ah.mk 0 false 0 ([]:Str) [] []),9)
  else
   if name1==([115,112,108,105,116]:Str)then
   EK a1.bR b1.bR
   else
   if name1==([115,116,97,114,116,115,119,105,116,104]:Str)then
    av (
     if decide ((b1.bR.length:Int)≤(a1.bR.length:Int))then
     av (sl a1.bR 0 (b1.bR.length:Int)) fun x7=>
     some (x7==b1.bR)
     else
     some false) fun b2=>
    av (jP b2) fun x8=>
    some (x8,0)
   else
    av (
     if decide ((b1.bR.length:Int)≤(a1.bR.length:Int))then
     av (sl a1.bR (bV ((a1.bR.length:Int)-(b1.bR.length:Int))) (a1.bR.length:Int)) fun x9=>
     some (x9==b1.bR)
     else
     some false) fun b3=>
    av (jP b3) fun EB=>
    some (EB,0)
def zl(op1:Str)(ab9 ajf:Bool):Option (ah × Int):=
 if op1==([60]:Str)then
 av (jP ab9) fun x1=>
 some (x1,0)
 else
 if op1==([60,61]:Str)then
  av (jP (!ajf)) fun x2=>
  some (x2,0)
 else
  if op1==([62]:Str)then
  av (jP ajf) fun x3=>
  some (x3,0)
  else
  av (jP (!ab9)) fun x4=>
  some (x4,0)
def EL(n1:Int):Option (BitVec 64):=
 if decide (n1<0)then
 some ((BitVec.ofInt 64 (bV (0-(bV (n1+1)))))+(1:BitVec 64))
 else
 some (BitVec.ofInt 64 n1)
def Ie(a1 b1:Int):Option nJ:=
 av (EL a1) fun x1=>
 av (EL b1) fun y1=>
 av (some ((x1%(4294967296:BitVec 64))*(y1%(4294967296:BitVec 64)))) fun JX=>
 av (some ((x1/(4294967296:BitVec 64))*(y1%(4294967296:BitVec 64)))) fun x2=>
 av (some ((x1%(4294967296:BitVec 64))*(y1/(4294967296:BitVec 64)))) fun x3=>
 av (some ((x2+(JX/(4294967296:BitVec 64)))%(4294967296:BitVec 64))) fun x4=>
 av (some ((x1/(4294967296:BitVec 64))*(y1/(4294967296:BitVec 64)))) fun x5=>
 av (some ((x2+(JX/(4294967296:BitVec 64)))/(4294967296:BitVec 64))) fun x6=>
 av (some ((x5+x6)+((x3+x4)/(4294967296:BitVec 64)))) fun x7=>
 av (some (((x3+x4)%(4294967296:BitVec 64))*(4294967296:BitVec 64))) fun x8=>
 some (nJ.mk ((!((decide (a1<0))==(decide (b1<0))))&&(((x7.toNat:Int) !=0)||(((x8+(JX%(4294967296:BitVec 64))).toNat:Int) !=0))) x7 (x8+(JX%(4294967296:BitVec 64))))
def Rh(w1:nJ):Option (Int × Bool):=
 if (((w1.hi.toNat:Int) !=0)||(decide (9223372036854775808<(w1.lo.toNat:Int))))||(((w1.lo.toNat:Int)==9223372036854775808)&&(!w1.neg))then
 some (0,false)
 else
 if (w1.lo.toNat:Int)==9223372036854775808 then
  some ((-9223372036854775808),true)
 else
  if w1.neg then
  some ((bV (0-(bV (w1.lo.toNat:Int)))),true)
  else
  some ((bV (w1.lo.toNat:Int)),true)
def WK(a1 b1:Int):Option Int:=
 av (Ie a1 b1) fun x1=>
 fI (Rh x1) fun n1 ok1=>
 if ok1 then
 some n1
 else
 if x1.neg then
  some (-9223372036854775808)
 else
  some 9223372036854775807
def QZ(op1:Str)(a1 b1:Int):Option (ah × Int):=
 if op1==([43]:Str)then
 lI (ah.mk 2 false (bV (a1+b1)) ([]:Str) [] [])
 else
 if op1==([45]:Str)then
  lI (ah.mk 2 false (bV (a1-b1)) ([]:Str) [] [])
 else
  if op1==([42]:Str)then
  av (WK a1 b1) fun n1=>
  lI (ah.mk 2 false n1 ([]:Str) [] [])
  else
  if b1==0 then
   some ((ah.mk 0 false 0 ([]:Str) [] []),12)
  else
   av (chk (!(b1==0))) fun _=>
   if op1==([37]:Str)then
   av (chk (!(b1==0))) fun _=>
   lI (ah.mk 2 false ((a1:Int).tmod b1) ([]:Str) [] [])
   else
   lI (ah.mk 2 false (bV ((a1:Int).tdiv b1)) ([]:Str) [] [])
def qm(op1:Str)(a1 b1:ah):Option (ah × Int):=
 if (op1==([61,61]:Str))||(op1==([33,61]:Str))then
 av (Ce a1 b1) fun x1=>
 av (jP (x1==(op1==([61,61]:Str)))) fun x2=>
 some (x2,0)
 else
 if a1.kind !=b1.kind then
  some ((ah.mk 0 false 0 ([]:Str) [] []),9)
 else
  av (Bl op1) fun x3=>
  if (a1.kind==2)&&(x3==4)then
  zl op1 (decide (a1.dA<b1.dA)) (decide (b1.dA<a1.dA))
  else
  if a1.kind==2 then
   QZ op1 a1.dA b1.dA
  else
   if (a1.kind==3)&&(x3==4)then
   zl op1 (Go.Op.bytesLess a1.bR b1.bR) (!(Go.Op.bytesLess a1.bR b1.bR||a1.bR==b1.bR))
   else
   if (a1.kind==3)&&(op1==([43]:Str))then
    av (app a1.bR b1.bR) fun EB=>
    av (pJ EB) fun La=>
    lI La
   else
    if (a1.kind==4)&&(op1==([43]:Str))then
    av (app [] a1.aN) fun l1=>
    av (app l1 b1.aN) fun UQ=>
    lI (ah.mk 4 false 0 ([]:Str) UQ [])
    else
    some ((ah.mk 0 false 0 ([]:Str) [] []),9)
def Af(v1:ah)(x1:aB):Nat→Bool→Int→ah→Option ah
 | 0,_,_,_=>none
 | dL+1,agu,i1,bD=>
 if decide (i1<(v1.keys.length:Int))then
  av (
   if !agu then
   av (idx v1.keys i1) fun e1=>
   av (qY x1.name e1) fun x2=>
   some (decide (x2<0))
   else
   some false) fun b1=>
  if b1 then
  av (app bD.keys ([x1.name]:List Str)) fun x3=>
  av (app bD.aN [x1.value]) fun x4=>
  av (idx v1.keys i1) fun e2=>
  av (app x3 ([e2]:List Str)) fun x5=>
  av (idx v1.aN i1) fun e3=>
  av (app x4 [e3]) fun x6=>
  Af v1 x1 dL true (bV (i1+1)) (ah.mk bD.kind bD.dR bD.dA bD.bR x6 x5)
  else
  av (idx v1.keys i1) fun e4=>
  av (app bD.keys ([e4]:List Str)) fun x7=>
  av (idx v1.aN i1) fun e5=>
  av (app bD.aN [e5]) fun x8=>
  Af v1 x1 dL agu (bV (i1+1)) (ah.mk bD.kind bD.dR bD.dA bD.bR x8 x7)
 else
  if !agu then
  av (app bD.keys ([x1.name]:List Str)) fun x9=>
  av (app bD.aN [x1.value]) fun EB=>
  some (ah.mk bD.kind bD.dR bD.dA bD.bR EB x9)
  else
  some bD
def Q9(v1:ah)(x1:aB):Option ah:=
 Af v1 x1 BIG false 0 (ah.mk 5 false 0 ([]:Str) [] [])
def Fz(gu:List aB):Nat→Int→ah→Option (ah × Int)
 | 0,_,_=>none
 | dL+1,i1,v1=>
 if decide (i1<(gu.length:Int))then
  av (idx gu i1) fun e1=>
  av (PL e1.name) fun x1=>
  if !x1 then
  some ((ah.mk 0 false 0 ([]:Str) [] []),1)
  else
  av (idx gu i1) fun e2=>
  av (Cc e2.value) fun e3=>
  if e3 !=0 then
   some ((ah.mk 0 false 0 ([]:Str) [] []),e3)
  else
   av (idx gu i1) fun e4=>
   av (FC e4.value) fun x2=>
   if x2==16 then
   some ((ah.mk 0 false 0 ([]:Str) [] []),13)
   else
   av (idx gu i1) fun e5=>
   fI (LV v1 e5.name) fun x3 ok1=>
   if ok1 then
    some ((ah.mk 0 false 0 ([]:Str) [] []),7)
   else
    av (idx gu i1) fun e6=>
    av (Q9 v1 e6) fun x4=>
    Fz gu dL (bV (i1+1)) x4
 else
  some (v1,0)
def PN(gu:List aB):Option (ah × Int):=
 if decide (1024<(gu.length:Int))then
 some ((ah.mk 0 false 0 ([]:Str) [] []),3)
 else
 Fz gu BIG 0 (ah.mk 5 false 0 ([]:Str) [] [])
def DI(e1:ak)(l1:List ah):Nat→List aB→Int→Option (ah × Int)
 | 0,_,_=>none
 | dL+1,gu,i1=>
 if decide (i1<(l1.length:Int))then
  av (idx e1.keys i1) fun e14=>
  av (idx l1 i1) fun e15=>
  av (app gu [(aB.mk e14 e15)]) fun EF=>
  DI e1 l1 dL EF (bV (i1+1))
 else
  PN gu
def LM(e1:ak)(l1:List ah):Option (ah × Int):=
 if e1.kind==3 then
 av (idx l1 0) fun e2=>
 av (pJ e1.name) fun x1=>
 Jy e2 x1
 else
 if e1.kind==4 then
  av (idx l1 0) fun e3=>
  av (idx l1 1) fun e4=>
  Jy e3 e4
 else
  if e1.kind==5 then
  if (l1.length:Int)==1 then
   av (idx l1 0) fun e5=>
   WG e1.name e5
  else
   av (idx l1 0) fun e6=>
   av (idx l1 1) fun e7=>
   WE e1.name e6 e7
  else
  if e1.kind==6 then
   av (
    if e1.name==([33]:Str)then
    av (idx l1 0) fun e8=>
    some (e8.kind==1)
    else
    some false) fun b1=>
   if b1 then
   av (idx l1 0) fun e9=>
   av (jP (!e9.dR)) fun EB=>
   some (EB,0)
   else
   av (
    if e1.name==([45]:Str)then
     av (idx l1 0) fun e10=>
     some (e10.kind==2)
    else
     some false) fun b2=>
   if b2 then
    av (idx l1 0) fun e11=>
    some ((ah.mk 2 false (bV (0-e11.dA)) ([]:Str) [] []),0)
   else
    some ((ah.mk 0 false 0 ([]:Str) [] []),9)
  else
   if e1.kind==7 then
   av (idx l1 0) fun e12=>
   av (idx l1 1) fun e13=>
   qm e1.name e12 e13
   else
   if e1.kind==9 then
    lI (ah.mk 4 false 0 ([]:Str) l1 [])
   else
    DI e1 l1 BIG [] 0
def DK(e1:ak)(eY:List aB):Nat→Int→Option (ah × Int)
 | 0,_=>none
 | dL+1,i1=>
 if decide (i1<(eY.length:Int))then
  av (idx eY i1) fun e2=>
  if e2.name==e1.name then
  av (idx eY i1) fun e3=>
  some (e3.value,0)
  else
  DK e1 eY dL (bV (i1+1))
 else
  some ((ah.mk 0 false 0 ([]:Str) [] []),10)
def HV(mZ:ak→List aB→Option (ah × Int))(e1:ak)(eY:List aB):Nat→List ah→Int→Option (ah × Int)
 | 0,_,_=>none
 | Y0+1,l1,i2=>
 if decide (i2<(e1.args.length:Int))then
  av (idx e1.args i2) fun e4=>
  fI (mZ e4 eY) fun x7 f1=>
  if f1 !=0 then
  some ((ah.mk 0 false 0 ([]:Str) [] []),f1)
  else
  av (app l1 [x7]) fun l2=>
  HV mZ e1 eY Y0 l2 (bV (i2+1))
 else
  LM e1 l1
def HY(mZ:ak→List aB→Option (ah × Int))(e1:ak)(eY:List aB):Option (ah × Int):=
 HV mZ e1 eY BIG [] 0
def Q0(mZ zR yI:ak→List aB→Option (ah × Int))(e1:ak)(eY:List aB):Option (ah × Int):=
 if e1.kind==1 then
 some (e1.value,0)
 else
 if e1.kind==2 then
  DK e1 eY BIG 0
 else
  if e1.kind==8 then
  zR e1 eY
  else
  if (e1.kind==7)&&((e1.name==([38,38]:Str))||(e1.name==([124,124]:Str)))then
   zR e1 eY
  else
   av (
    if e1.kind==5 then
    av (LP e1.name) fun x5=>
    some (decide (x5<0))
    else
    some false) fun b1=>
   if b1 then
   some ((ah.mk 0 false 0 ([]:Str) [] []),10)
   else
   av (
    if e1.kind==5 then
     av (LP e1.name) fun x6=>
     some (x6 !=(e1.args.length:Int))
    else
     some false) fun b2=>
   if b2 then
    some ((ah.mk 0 false 0 ([]:Str) [] []),1)
   else
    HY mZ e1 eY
def Bh(mZ zR yI:ak→List aB→Option (ah × Int))(e1:ak)(eY:List aB):Option (ah × Int):=
 av (idx e1.args 0) fun e2=>
 fI (yI e2 eY) fun x1 f1=>
 if f1 !=0 then
 some ((ah.mk 0 false 0 ([]:Str) [] []),f1)
 else
 if e1.kind==8 then
  if x1.dR then
  av (idx e1.args 1) fun e3=>
  mZ e3 eY
  else
  av (idx e1.args 2) fun e4=>
  mZ e4 eY
 else
  if x1.dR==(e1.name==([124,124]:Str))then
  some (x1,0)
  else
  av (idx e1.args 1) fun e5=>
  yI e5 eY
def El(mZ zR yI:ak→List aB→Option (ah × Int))(e1:ak)(eY:List aB):Option (ah × Int):=
 fI (mZ e1 eY) fun x1 f1=>
 if (f1==0)&&(x1.kind !=1)then
 some ((ah.mk 0 false 0 ([]:Str) [] []),9)
 else
 some (x1,f1)
mutual
def nN:Nat→ak→List aB→Option (ah × Int)
 | 0,_,_=>none
 | k+1,kS,nS=>Q0 (nN k) (xR k) (vS k) kS nS
def xR:Nat→ak→List aB→Option (ah × Int)
 | 0,_,_=>none
 | k+1,kS,nS=>Bh (nN k) (xR k) (vS k) kS nS
def vS:Nat→ak→List aB→Option (ah × Int)
 | 0,_,_=>none
 | k+1,kS,nS=>El (nN k) (xR k) (vS k) kS nS
end
def afa(kS:ak)(nS:List aB):Option (ah × Int):=nN BIG kS nS
def Q5(e1:ak)(eY:List aB):Option (ah × Int):=
 av (WH eY) fun f1=>
 if f1 !=0 then
 some ((ah.mk 0 false 0 ([]:Str) [] []),f1)
 else
 av (Nc e1) fun f2=>
 if f2 !=0 then
  some ((ah.mk 0 false 0 ([]:Str) [] []),f2)
 else
  afa e1 eY
def QX(l:List aY):Bool:=
 match l.getLast? with
 | some p=>p.Z0
 | none=>true
def WC(l:List aY):Str:=
 match l.getLast? with
 | some p=>p.text
 | none=>[]
def ai2(l:List aY)(t:Str):List aY:=
 match l.getLast? with
 | some p=>l.dropLast++[aY.mk t p.Z0 p.expr]
 | none=>l
def Yx(l1:List aY)(c1:UInt8):Option (List aY):=
 if l1.length≤sI then
  if ((l1.length:Int)==0)||QX l1 then
   app l1 [(aY.mk [c1] false (ak.mk 0 ([]:Str) (ah.mk 0 false 0 ([]:Str) [] []) [] []))]
  else
   av (app (WC l1) [c1]) fun t1=>
   some (ai2 l1 t1)
 else
  none
def T9(s1:Str):Nat→Int→Option Int
 | 0,_=>none
 | dL+1,at2=>
  av (
    if decide (at2<(s1.length:Int))then
     av (idx s1 at2) fun x1=>
     some ((x1.toNat:Int) !=34)
    else
     some false) fun b1=>
  if b1 then
   av (idx s1 at2) fun x2=>
   if (x2.toNat:Int)==92 then
    T9 s1 dL (bV ((bV (at2+1))+1))
   else
    T9 s1 dL (bV (at2+1))
  else
   some (bV (at2+1))
def ajT(s1:Str)(jd:Int):Option Int:=
 T9 s1 BIG (bV (jd+1))
def Cy(s1:Str):Nat→Int→Int→Option Int
 | 0,_,_=>none
 | dL+1,at2,kL=>
  if decide (at2<(s1.length:Int))then
   av (idx s1 at2) fun x1=>
   if (x1.toNat:Int)==34 then
    av (ajT s1 at2) fun at3=>
    Cy s1 dL at3 kL
   else
    if (x1.toNat:Int)==123 then
     Cy s1 dL (bV (at2+1)) (bV (kL+1))
    else
     if (x1.toNat:Int)==125 then
      if kL==0 then
       some at2
      else
       Cy s1 dL (bV (at2+1)) (bV (kL-1))
     else
      Cy s1 dL (bV (at2+1)) kL
  else
   some (-1)
def ai3(s1:Str)(jd:Int):Option Int:=
 Cy s1 BIG jd 0
def H7(gB:Str):Nat→Int→Bool→Option Int
 | 0,_,_=>none
 | dL+1,at2,agd=>
  av (
    if decide (at2<(gB.length:Int))then
     av (idx gB at2) fun x1=>
     some ((x1.toNat:Int) !=10)
    else
     some false) fun b1=>
  av (
    if b1 then
     av (
       if agd then
        some true
       else
        av (idx gB at2) fun x2=>
        some ((x2.toNat:Int)==32)) fun b3=>
     av (
       if b3 then
        some true
       else
        av (idx gB at2) fun x3=>
        some ((x3.toNat:Int)==9)) fun b4=>
     if b4 then
      some true
     else
      av (idx gB at2) fun x4=>
      some ((x4.toNat:Int)==35)
    else
     some false) fun b2=>
  if b2 then
   av (
     if agd then
      some true
     else
      av (idx gB at2) fun x5=>
      some ((x5.toNat:Int)==35)) fun b6=>
   H7 gB dL (bV (at2+1)) b6
  else
   some at2
def YB(gB:Str)(jd:Int):Option Int:=
 H7 gB BIG jd false
def T_(gB:Str)(jd:Int):Nat→Int→Option Int
 | 0,_=>none
 | dL+1,n1=>
  av (
    if decide ((bV (jd+n1))<(gB.length:Int))then
     av (idx gB (bV (jd+n1))) fun x1=>
     Cb x1
    else
     some false) fun b1=>
  if b1 then
   T_ gB jd dL (bV (n1+1))
  else
   some n1
def aaC(gB:Str)(jd:Int):Option Int:=
 T_ gB jd BIG 0
def Yz(gB:Str)(jd:Int):Nat→Int→Option Int
 | 0,_=>none
 | dL+1,n1=>
  av (
    if decide ((bV (jd+n1))<(gB.length:Int))then
     av (idx gB (bV (jd+n1))) fun x1=>
     av (KD x1) fun x2=>
     if x2 then
      some true
     else
      av (idx gB (bV (jd+n1))) fun x3=>
      Cb x3
    else
     some false) fun b1=>
  if b1 then
   Yz gB jd dL (bV (n1+1))
  else
   some n1
def afe(gB:Str)(jd:Int):Option Int:=
 Yz gB jd BIG 0
def aaB(gB:Str)(jd:Int):Option (aG × Int × Int):=
 av (aaC gB jd) fun n1=>
 av (afe gB jd) fun x1=>
 av (
   if decide (n1<x1)then
    some true
   else
    if decide (1<n1)then
     av (idx gB jd) fun x2=>
     some ((x2.toNat:Int)==48)
    else
     some false) fun b1=>
 if b1 then
  some ((aG.mk 0 ([]:Str) 0),0,5)
 else
  av (sl gB jd (bV (jd+n1))) fun x3=>
  fI (DL x3) fun x4 ok1=>
  if !ok1 then
   some ((aG.mk 0 ([]:Str) 0),0,2)
  else
   av (sl gB jd (bV (jd+n1))) fun x5=>
   some ((aG.mk 2 x5 0),n1,0)
def ahX(c1:UInt8):Option Int:=
 av (Cb c1) fun x1=>
 if x1 then
  some (bV ((c1.toNat:Int)-48))
 else
  if (decide (97≤(c1.toNat:Int)))&&(decide ((c1.toNat:Int)≤102))then
   some (bV ((c1.toNat:Int)-87))
  else
   if (decide (65≤(c1.toNat:Int)))&&(decide ((c1.toNat:Int)≤70))then
    some (bV ((c1.toNat:Int)-55))
   else
    some (-1)
def xU(gB:Str)(jd:Int):Nat→Int→Int→Option (UInt8 × Int × Int)
 | 0,_,_=>none
 | dL+1,n1,i1=>
  if decide (i1<(bV (jd+4)))then
   if decide ((gB.length:Int)≤i1)then
    some (0,0,4)
   else
    av (idx gB i1) fun x1=>
    av (ahX x1) fun x2=>
    if decide (x2<0)then
     some (0,0,5)
    else
     av (idx gB i1) fun x3=>
     av (ahX x3) fun x4=>
     xU gB jd dL (bV ((bV (16*n1))+x4)) (bV (i1+1))
  else
   some ((Ft.byteOf n1),4,0)
def YC(gB:Str)(jd:Int):Option (UInt8 × Int × Int):=
 xU gB jd BIG 0 (bV (jd+2))
def zO(gB:Str)(jd:Int):Option (UInt8 × Int × Int):=
 av (idx gB jd) fun x1=>
 if decide ((x1.toNat:Int)<32)then
  some (0,0,5)
 else
  av (idx gB jd) fun x2=>
  if (x2.toNat:Int) !=92 then
   av (idx gB jd) fun x3=>
   some (x3,1,0)
  else
   if decide ((gB.length:Int)≤(bV (jd+1)))then
    some (0,0,4)
   else
    av (idx gB (bV (jd+1))) fun x4=>
    if (x4.toNat:Int)==34 then
     av (idx gB (bV (jd+1))) fun x5=>
     some (x5,2,0)
    else
     if (x4.toNat:Int)==92 then
      av (idx gB (bV (jd+1))) fun x6=>
      some (x6,2,0)
     else
      if (x4.toNat:Int)==110 then
       some (10,2,0)
      else
       if (x4.toNat:Int)==116 then
        some (9,2,0)
       else
        if (x4.toNat:Int)==120 then
         YC gB jd
        else
         some (0,0,5)
def YA(gB:Str)(jd:Int):Nat→List UInt8→Int→Option (aG × Int × Int)
 | 0,_,_=>none
 | dL+1,b1,i1=>
  if decide (i1<(gB.length:Int))then
   av (idx gB i1) fun x1=>
   if (x1.toNat:Int)==34 then
    if decide (4096<(b1.length:Int))then
     some ((aG.mk 0 ([]:Str) 0),0,3)
    else
     some ((aG.mk 3 b1 0),(bV ((bV (i1+1))-jd)),0)
   else
    Au (zO gB i1) fun c1 n1 e1=>
    if e1 !=0 then
     some ((aG.mk 0 ([]:Str) 0),0,e1)
    else
     av (app b1 ([c1]:List UInt8)) fun b2=>
     YA gB jd dL b2 (bV (i1+n1))
  else
   some ((aG.mk 0 ([]:Str) 0),0,4)
def aff(gB:Str)(jd:Int):Option (aG × Int × Int):=
 YA gB jd BIG [] (bV (jd+1))
def lD(gB:Str)(jd:Int):Nat→Int→Option Int
 | 0,_=>none
 | Y0+1,i2=>
  if decide (i2<19)then
   av (idx gB jd) fun x3=>
   av (idx ([60,62,43,45,42,47,37,33,63,58,46,44,61,40,41,91,93,123,125]:Str) i2) fun x4=>
   if (x3.toNat:Int)==(x4.toNat:Int)then
    some 1
   else
    lD gB jd Y0 (bV (i2+1))
  else
   some 0
def j5(gB:Str)(jd:Int):Nat→Int→Option Int
 | 0,_=>none
 | dL+1,i1=>
  if decide (i1<12)then
   av (
     if decide ((bV (jd+2))≤(gB.length:Int))then
      av (sl gB jd (bV (jd+2))) fun x1=>
      av (sl ([124,124,38,38,61,61,33,61,60,61,62,61]:Str) i1 (bV (i1+2))) fun x2=>
      some (x1==x2)
     else
      some false) fun b1=>
   if b1 then
    some 2
   else
    j5 gB jd dL (bV (i1+2))
  else
   lD gB jd BIG 0
def WI(gB:Str)(jd:Int):Option Int:=
 j5 gB jd BIG 0
def adj(gB:Str)(jd:Int):Option (aG × Int × Int):=
 av (idx gB jd) fun x1=>
 av (Cb x1) fun x2=>
 if x2 then
  aaB gB jd
 else
  av (idx gB jd) fun x6=>
  if (x6.toNat:Int)==34 then
   aff gB jd
  else
   av (afe gB jd) fun n1=>
   if decide (0<n1)then
    if decide (64<n1)then
     some ((aG.mk 0 ([]:Str) 0),0,3)
    else
     av (sl gB jd (bV (jd+n1))) fun EB=>
     some ((aG.mk 1 EB 0),n1,0)
   else
    av (WI gB jd) fun n2=>
    if n2==0 then
     some ((aG.mk 0 ([]:Str) 0),0,5)
    else
     av (sl gB jd (bV (jd+n2))) fun La=>
     some ((aG.mk 4 La 0),n2,0)
def Q7(kL:Int)(t1:aG):Option Int:=
 if (t1.kind==4)&&((t1.text==([40]:Str))||(t1.text==([91]:Str)))then
  some (bV (kL+1))
 else
  if ((t1.kind==4)&&((t1.text==([41]:Str))||(t1.text==([93]:Str))))&&(decide (0<kL))then
   some (bV (kL-1))
  else
   some kL
def J5(gB:Str):Nat→List aG→Int→Int→Option (List aG × Int × Int)
 | 0,_,_,_=>none
 | dL+1,bD,kL,at2=>
  if decide (at2<(gB.length:Int))then
   av (idx gB at2) fun x1=>
   if (x1.toNat:Int) !=10 then
    Au (adj gB at2) fun x2 GY e1=>
    if e1 !=0 then
     some ([],at2,e1)
    else
     av (
       if x2.kind !=5 then
        some true
       else
        if kL==0 then
         if (bD.length:Int)==0 then
          some true
         else
          av (idx bD (bV ((bD.length:Int)-1))) fun e2=>
          some (e2.kind !=5)
        else
         some false) fun b1=>
     if b1 then
      av (app bD [(aG.mk x2.kind x2.text at2)]) fun xI=>
      av (Q7 kL (aG.mk x2.kind x2.text at2)) fun afE=>
      av (YB gB (bV (at2+GY))) fun at3=>
      J5 gB dL xI afE at3
     else
      av (Q7 kL (aG.mk x2.kind x2.text at2)) fun anm=>
      av (YB gB (bV (at2+GY))) fun at4=>
      J5 gB dL bD anm at4
   else
    av (
      if (5:Int) !=5 then
       some true
      else
       if kL==0 then
        if (bD.length:Int)==0 then
         some true
        else
         av (idx bD (bV ((bD.length:Int)-1))) fun e3=>
         some (e3.kind !=5)
       else
        some false) fun b4=>
    if b4 then
     av (app bD [(aG.mk 5 ([]:Str) at2)]) fun ah3=>
     av (Q7 kL (aG.mk 5 ([]:Str) at2)) fun anc=>
     av (YB gB (bV (at2+1))) fun at5=>
     J5 gB dL ah3 anc at5
    else
     av (Q7 kL (aG.mk 5 ([]:Str) at2)) fun ana=>
     av (YB gB (bV (at2+1))) fun at6=>
     J5 gB dL bD ana at6
  else
   some (bD,0,0)
def Fx(gB:Str):Option (List aG × Int × Int):=
 if decide (65536<(gB.length:Int))then
  some ([],0,3)
 else
  av (YB gB 0) fun jd=>
  J5 gB BIG [] 0 jd
def ajU(MU:List aG)(jd:Int)(s1:Str):Option Bool:=
 av (
   if decide (jd<(MU.length:Int))then
    av (idx MU jd) fun e1=>
    some (e1.kind==4)
   else
    some false) fun b1=>
 if b1 then
  av (idx MU jd) fun e2=>
  some (e2.text==s1)
 else
  some false
def aek(v1:ah):Option ak:=
 some (ak.mk 1 ([]:Str) v1 [] [])
def ahW(t1:aG):Option Bool:=
 av (
   if t1.kind==1 then
    Q8 t1.text
   else
    some false) fun b1=>
 some (b1||((t1.kind==3)&&(decide ((t1.text.length:Int)≤4096))))
def Yy(MU:List aG)(jd:Int):Option Int:=
 if decide ((MU.length:Int)≤jd)then
  some 4
 else
  some 5
def aej(aa3:List aG→Int→Option (ak × Int × Int))(aa6:List aG→Int→Int→Option (ak × Int × Int))(aa8 adu aeg aef:List aG→Int→Option (ak × Int × Int))(acf:List aG→Int→Str→Bool→Option (List ak × List Str × Int × Int))(aa7:List aG→Int→Option (ak × Int × Int))(MU:List aG)(jd:Int):Option (ak × Int × Int):=
 Au (aa6 MU jd 2) fun x1 at2 e1=>
 av (
   if e1 !=0 then
    some true
   else
    av (ajU MU at2 ([63]:Str)) fun x2=>
    some (!x2)) fun b1=>
 if b1 then
  some (x1,at2,e1)
 else
  Au (aa3 MU (bV (at2+1))) fun x3 at3 e2=>
  if e2 !=0 then
   some ((ak.mk 0 ([]:Str) (ah.mk 0 false 0 ([]:Str) [] []) [] []),at3,e2)
  else
   av (ajU MU at3 ([58]:Str)) fun x4=>
   if !x4 then
    av (Yy MU at3) fun x5=>
    some ((ak.mk 0 ([]:Str) (ah.mk 0 false 0 ([]:Str) [] []) [] []),at3,x5)
   else
    Au (aa3 MU (bV (at3+1))) fun x6 at4 e3=>
    some ((ak.mk 8 ([]:Str) (ah.mk 0 false 0 ([]:Str) [] []) [x1,x3,x6] []),at4,e3)
def uT(aa6:List aG→Int→Int→Option (ak × Int × Int))(MU:List aG)(aei:Int):Nat→Int→Int→Int→ak→Option (ak × Int × Int)
 | 0,_,_,_,_=>none
 | dL+1,at3,e2,n1,alq=>
  av (
    if (e2==0)&&(decide (at3<(MU.length:Int)))then
     av (idx MU at3) fun e3=>
     some (e3.kind==4)
    else
     some false) fun b1=>
  av (
    if b1 then
     av (idx MU at3) fun e4=>
     av (Bl e4.text) fun x5=>
     some (x5==aei)
    else
     some false) fun b2=>
  if b2&&((n1==0)||(aei !=4))then
   Au (aa6 MU (bV (at3+1)) (bV (aei+1))) fun x6 CO f1=>
   av (idx MU at3) fun e5=>
   uT aa6 MU aei dL CO f1 (bV (n1+1)) (ak.mk 7 e5.text (ah.mk 0 false 0 ([]:Str) [] []) [alq,x6] [])
  else
   some (alq,at3,e2)
def O5(aa3:List aG→Int→Option (ak × Int × Int))(aa6:List aG→Int→Int→Option (ak × Int × Int))(aa8 adu aeg aef:List aG→Int→Option (ak × Int × Int))(acf:List aG→Int→Str→Bool→Option (List ak × List Str × Int × Int))(aa7:List aG→Int→Option (ak × Int × Int))(MU:List aG)(jd aei:Int):Option (ak × Int × Int):=
 if aei==7 then
  aa8 MU jd
 else
  Au (aa6 MU jd (bV (aei+1))) fun x4 at2 e1=>
  uT aa6 MU aei BIG at2 e1 0 x4
def ai4(aa3:List aG→Int→Option (ak × Int × Int))(aa6:List aG→Int→Int→Option (ak × Int × Int))(aa8 adu aeg aef:List aG→Int→Option (ak × Int × Int))(acf:List aG→Int→Str→Bool→Option (List ak × List Str × Int × Int))(aa7:List aG→Int→Option (ak × Int × Int))(MU:List aG)(jd:Int):Option (ak × Int × Int):=
 av (ajU MU jd ([33]:Str)) fun x1=>
 av (
   if !x1 then
    av (ajU MU jd ([45]:Str)) fun x2=>
    some (!x2)
   else
    some false) fun b1=>
 if b1 then
  adu MU jd
 else
  Au (aa8 MU (bV (jd+1))) fun x6 CO e1=>
  av (idx MU jd) fun e2=>
  some ((ak.mk 6 e2.text (ah.mk 0 false 0 ([]:Str) [] []) [x6] []),CO,e1)
def Fv(aa3:List aG→Int→Option (ak × Int × Int))(MU:List aG)(e1:Int):Nat→Int→ak→Option (ak × Int × Int)
 | 0,_,_=>none
 | dL+1,at3,x2=>
  av (
    if e1==0 then
     av (ajU MU at3 ([46]:Str)) fun x3=>
     if x3 then
      some true
     else
      ajU MU at3 ([91]:Str)
    else
     some false) fun b1=>
  if b1 then
   av (ajU MU at3 ([46]:Str)) fun x5=>
   if x5 then
    av (
      if decide ((MU.length:Int)≤(bV (at3+1)))then
       some true
      else
       av (idx MU (bV (at3+1))) fun e2=>
       some (e2.kind !=1)) fun b3=>
    av (
      if b3 then
       some true
      else
       av (idx MU (bV (at3+1))) fun e3=>
       av (zm e3.text) fun x6=>
       some (!x6)) fun b4=>
    if b4 then
     av (Yy MU (bV (at3+1))) fun x7=>
     some ((ak.mk 0 ([]:Str) (ah.mk 0 false 0 ([]:Str) [] []) [] []),(bV (at3+1)),x7)
    else
     av (idx MU (bV (at3+1))) fun e4=>
     Fv aa3 MU e1 dL (bV ((bV (at3+1))+1)) (ak.mk 3 e4.text (ah.mk 0 false 0 ([]:Str) [] []) [x2] [])
   else
    Au (aa3 MU (bV (at3+1))) fun x8 CO f1=>
    if f1 !=0 then
     some ((ak.mk 0 ([]:Str) (ah.mk 0 false 0 ([]:Str) [] []) [] []),CO,f1)
    else
     av (ajU MU CO ([93]:Str)) fun x9=>
     if !x9 then
      av (Yy MU CO) fun EB=>
      some ((ak.mk 0 ([]:Str) (ah.mk 0 false 0 ([]:Str) [] []) [] []),CO,EB)
     else
      Fv aa3 MU e1 dL (bV (CO+1)) (ak.mk 4 ([]:Str) (ah.mk 0 false 0 ([]:Str) [] []) [x2,x8] [])
  else
   some (x2,at3,e1)
def ai5(aa3:List aG→Int→Option (ak × Int × Int))(aa6:List aG→Int→Int→Option (ak × Int × Int))(aa8 adu aeg aef:List aG→Int→Option (ak × Int × Int))(acf:List aG→Int→Str→Bool→Option (List ak × List Str × Int × Int))(aa7:List aG→Int→Option (ak × Int × Int))(MU:List aG)(jd:Int):Option (ak × Int × Int):=
 Au (aeg MU jd) fun x1 at2 e1=>
 Fv aa3 MU e1 BIG at2 x1
def ajV(aa3:List aG→Int→Option (ak × Int × Int))(aa6:List aG→Int→Int→Option (ak × Int × Int))(aa8 adu aeg aef:List aG→Int→Option (ak × Int × Int))(acf:List aG→Int→Str→Bool→Option (List ak × List Str × Int × Int))(aa7:List aG→Int→Option (ak × Int × Int))(MU:List aG)(jd:Int):Option (ak × Int × Int):=
 if decide ((MU.length:Int)≤jd)then
  some ((ak.mk 0 ([]:Str) (ah.mk 0 false 0 ([]:Str) [] []) [] []),jd,4)
 else
  av (idx MU jd) fun e1=>
  if e1.kind==2 then
   fI (DL e1.text) fun n1 ok1=>
   if ok1 then
    av (aek (ah.mk 2 false n1 ([]:Str) [] [])) fun x1=>
    some (x1,(bV (jd+1)),0)
   else
    some ((ak.mk 0 ([]:Str) (ah.mk 0 false 0 ([]:Str) [] []) [] []),jd,5)
  else
   if e1.kind==3 then
    if decide ((e1.text.length:Int)≤4096)then
     av (aek (ah.mk 3 false 0 e1.text [] [])) fun x2=>
     some (x2,(bV (jd+1)),0)
    else
     some ((ak.mk 0 ([]:Str) (ah.mk 0 false 0 ([]:Str) [] []) [] []),jd,5)
   else
    if e1.kind==1 then
     aef MU jd
    else
     if e1.kind==4 then
      aa7 MU jd
     else
      some ((ak.mk 0 ([]:Str) (ah.mk 0 false 0 ([]:Str) [] []) [] []),jd,5)
def aaz(aa3:List aG→Int→Option (ak × Int × Int))(aa6:List aG→Int→Int→Option (ak × Int × Int))(aa8 adu aeg aef:List aG→Int→Option (ak × Int × Int))(acf:List aG→Int→Str→Bool→Option (List ak × List Str × Int × Int))(aa7:List aG→Int→Option (ak × Int × Int))(MU:List aG)(jd:Int):Option (ak × Int × Int):=
 av (idx MU jd) fun e1=>
 if e1.text==([110,117,108,108]:Str)then
  av (aek (ah.mk 0 false 0 ([]:Str) [] [])) fun x1=>
  some (x1,(bV (jd+1)),0)
 else
  if e1.text==([116,114,117,101]:Str)then
   av (aek (ah.mk 1 (e1.text==([116,114,117,101]:Str)) 0 ([]:Str) [] [])) fun x2=>
   some (x2,(bV (jd+1)),0)
  else
   if e1.text==([102,97,108,115,101]:Str)then
    av (aek (ah.mk 1 (e1.text==([116,114,117,101]:Str)) 0 ([]:Str) [] [])) fun x3=>
    some (x3,(bV (jd+1)),0)
   else
    av (zm e1.text) fun x4=>
    if !x4 then
     some ((ak.mk 0 ([]:Str) (ah.mk 0 false 0 ([]:Str) [] []) [] []),jd,5)
    else
     av (ajU MU (bV (jd+1)) ([40]:Str)) fun x5=>
     if !x5 then
      some ((ak.mk 2 e1.text (ah.mk 0 false 0 ([]:Str) [] []) [] []),(bV (jd+1)),0)
     else
      ZK (acf MU (bV (jd+2)) ([41]:Str) false) fun l1 x6 CO e2=>
      some ((ak.mk 5 e1.text (ah.mk 0 false 0 ([]:Str) [] []) l1 []),CO,e2)
def HZ(aa3:List aG→Int→Option (ak × Int × Int))(MU:List aG)(aem:Str)(afA:Bool):Nat→Int→List ak→List Str→Option (List ak × List Str × Int × Int)
 | 0,_,_,_=>none
 | dL+1,at2,l1,Mg=>
  if afA then
   av (
     if decide ((MU.length:Int)≤at2)then
      some true
     else
      av (idx MU at2) fun e1=>
      av (ahW e1) fun x2=>
      some (!x2)) fun b1=>
   if b1 then
    av (Yy MU at2) fun x3=>
    some ([],[],at2,x3)
   else
    av (idx MU at2) fun e2=>
    av (app Mg ([e2.text]:List Str)) fun alr=>
    av (ajU MU (bV (at2+1)) ([58]:Str)) fun x4=>
    if !x4 then
     av (Yy MU (bV (at2+1))) fun x5=>
     some ([],[],(bV (at2+1)),x5)
    else
     Au (aa3 MU (bV ((bV (at2+1))+1))) fun x6 CO e3=>
     if e3 !=0 then
      some ([],[],CO,e3)
     else
      av (app l1 [x6]) fun l2=>
      av (ajU MU CO aem) fun x7=>
      if x7 then
       some (l2,alr,(bV (CO+1)),0)
      else
       av (ajU MU CO ([44]:Str)) fun x8=>
       if !x8 then
        av (Yy MU CO) fun x9=>
        some ([],[],CO,x9)
       else
        HZ aa3 MU aem afA dL (bV (CO+1)) l2 alr
  else
   Au (aa3 MU at2) fun EB afM e4=>
   if e4 !=0 then
    some ([],[],afM,e4)
   else
    av (app l1 [EB]) fun l3=>
    av (ajU MU afM aem) fun La=>
    if La then
     some (l3,Mg,(bV (afM+1)),0)
    else
     av (ajU MU afM ([44]:Str)) fun Qf=>
     if !Qf then
      av (Yy MU afM) fun OY=>
      some ([],[],afM,OY)
     else
      HZ aa3 MU aem afA dL (bV (afM+1)) l3 Mg
def aaA(aa3:List aG→Int→Option (ak × Int × Int))(aa6:List aG→Int→Int→Option (ak × Int × Int))(aa8 adu aeg aef:List aG→Int→Option (ak × Int × Int))(acf:List aG→Int→Str→Bool→Option (List ak × List Str × Int × Int))(aa7:List aG→Int→Option (ak × Int × Int))(MU:List aG)(jd:Int)(aem:Str)(afA:Bool):Option (List ak × List Str × Int × Int):=
 av (ajU MU jd aem) fun x1=>
 if x1 then
  some ([],[],(bV (jd+1)),0)
 else
  HZ aa3 MU aem afA BIG jd [] []
def afc(aa3:List aG→Int→Option (ak × Int × Int))(aa6:List aG→Int→Int→Option (ak × Int × Int))(aa8 adu aeg aef:List aG→Int→Option (ak × Int × Int))(acf:List aG→Int→Str→Bool→Option (List ak × List Str × Int × Int))(aa7:List aG→Int→Option (ak × Int × Int))(MU:List aG)(jd:Int):Option (ak × Int × Int):=
 av (idx MU jd) fun e1=>
 if e1.text==([40]:Str)then
  Au (aa3 MU (bV (jd+1))) fun x1 CO e2=>
  av (
    if e2==0 then
     av (ajU MU CO ([41]:Str)) fun x2=>
     some (!x2)
    else
     some false) fun b1=>
  if b1 then
   av (Yy MU CO) fun e3=>
   if e3 !=0 then
    some ((ak.mk 0 ([]:Str) (ah.mk 0 false 0 ([]:Str) [] []) [] []),CO,e3)
   else
    some (x1,(bV (CO+1)),0)
  else
   if e2 !=0 then
    some ((ak.mk 0 ([]:Str) (ah.mk 0 false 0 ([]:Str) [] []) [] []),CO,e2)
   else
    some (x1,(bV (CO+1)),0)
 else
  if e1.text==([91]:Str)then
   ZK (acf MU (bV (jd+1)) ([93]:Str) false) fun l1 x3 afM e4=>
   some ((ak.mk 9 ([]:Str) (ah.mk 0 false 0 ([]:Str) [] []) l1 []),afM,e4)
  else
   if e1.text==([123]:Str)then
    ZK (acf MU (bV (jd+1)) ([125]:Str) true) fun l2 Mg anq e5=>
    some ((ak.mk 10 ([]:Str) (ah.mk 0 false 0 ([]:Str) [] []) l2 Mg),anq,e5)
   else
    some ((ak.mk 0 ([]:Str) (ah.mk 0 false 0 ([]:Str) [] []) [] []),jd,5)
mutual
def iF:Nat→List aG→Int→Option (ak × Int × Int)
 | 0,_,_=>none
 | k+1,aeu,afw=>aej (iF k) (j4 k) (Ae k) (H6 k) (KC k) (Q6 k) (rF k) (afb k) aeu afw
def j4:Nat→List aG→Int→Int→Option (ak × Int × Int)
 | 0,_,_,_=>none
 | k+1,aeu,afw,agf=>O5 (iF k) (j4 k) (Ae k) (H6 k) (KC k) (Q6 k) (rF k) (afb k) aeu afw agf
def Ae:Nat→List aG→Int→Option (ak × Int × Int)
 | 0,_,_=>none
 | k+1,aeu,afw=>ai4 (iF k) (j4 k) (Ae k) (H6 k) (KC k) (Q6 k) (rF k) (afb k) aeu afw
def H6:Nat→List aG→Int→Option (ak × Int × Int)
 | 0,_,_=>none
 | k+1,aeu,afw=>ai5 (iF k) (j4 k) (Ae k) (H6 k) (KC k) (Q6 k) (rF k) (afb k) aeu afw
def KC:Nat→List aG→Int→Option (ak × Int × Int)
 | 0,_,_=>none
 | k+1,aeu,afw=>ajV (iF k) (j4 k) (Ae k) (H6 k) (KC k) (Q6 k) (rF k) (afb k) aeu afw
def Q6:Nat→List aG→Int→Option (ak × Int × Int)
 | 0,_,_=>none
 | k+1,aeu,afw=>aaz (iF k) (j4 k) (Ae k) (H6 k) (KC k) (Q6 k) (rF k) (afb k) aeu afw
def rF:Nat→List aG→Int→Str→Bool→Option (List ak × List Str × Int × Int)
 | 0,_,_,_,_=>none
 | k+1,aeu,afw,ahm,ahl=>aaA (iF k) (j4 k) (Ae k) (H6 k) (KC k) (Q6 k) (rF k) (afb k) aeu afw ahm ahl
def afb:Nat→List aG→Int→Option (ak × Int × Int)
 | 0,_,_=>none
 | k+1,aeu,afw=>afc (iF k) (j4 k) (Ae k) (H6 k) (KC k) (Q6 k) (rF k) (afb k) aeu afw
end
def ahg(aeu:List aG)(afw:Int):Option (ak × Int × Int):=iF BIG aeu afw
def afd(MU:List aG):Option (ak × Int × Int):=
 Au (ahg MU 0) fun x1 jd e1=>
 if e1 !=0 then
  some ((ak.mk 0 ([]:Str) (ah.mk 0 false 0 ([]:Str) [] []) [] []),jd,e1)
 else
  av (Nc x1) fun f1=>
  if f1 !=0 then
   some ((ak.mk 0 ([]:Str) (ah.mk 0 false 0 ([]:Str) [] []) [] []),0,f1)
  else
   some (x1,jd,0)
def adi(gB:Str):Option (ak × Int × Int):=
 Au (Fx gB) fun MU jd e1=>
 if e1 !=0 then
  some ((ak.mk 0 ([]:Str) (ah.mk 0 false 0 ([]:Str) [] []) [] []),jd,e1)
 else
  Au (afd MU) fun x1 n1 e2=>
  if (e2==0)&&(n1==(MU.length:Int))then
   some (x1,0,0)
  else
   if e2==0 then
    if decide (n1<(MU.length:Int))then
     av (idx MU n1) fun e3=>
     some ((ak.mk 0 ([]:Str) (ah.mk 0 false 0 ([]:Str) [] []) [] []),e3.at_,5)
    else
     some ((ak.mk 0 ([]:Str) (ah.mk 0 false 0 ([]:Str) [] []) [] []),(gB.length:Int),5)
   else
    if decide (n1<(MU.length:Int))then
     av (idx MU n1) fun e4=>
     some ((ak.mk 0 ([]:Str) (ah.mk 0 false 0 ([]:Str) [] []) [] []),e4.at_,e2)
    else
     some ((ak.mk 0 ([]:Str) (ah.mk 0 false 0 ([]:Str) [] []) [] []),(gB.length:Int),e2)
def LK(s1:Str):Nat→List aY→Int→Option (List aY × Int × Int)
 | 0,_,_=>none
 | dL+1,l1,jd=>
  if decide (jd<(s1.length:Int))then
   av (idx s1 jd) fun x1=>
   av (
     if ((x1.toNat:Int) !=36)||(decide ((s1.length:Int)≤(bV (jd+1))))then
      some true
     else
      av (idx s1 (bV (jd+1))) fun x2=>
      if (x2.toNat:Int) !=36 then
       av (idx s1 (bV (jd+1))) fun x3=>
       some ((x3.toNat:Int) !=123)
      else
       some false) fun b1=>
   if b1 then
    av (idx s1 jd) fun c1=>
    av (Yx l1 c1) fun l2=>
    LK s1 dL l2 (bV (jd+1))
   else
    av (idx s1 (bV (jd+1))) fun x4=>
    if (x4.toNat:Int)==36 then
     av (Yx l1 36) fun l2=>
     LK s1 dL l2 (bV (jd+2))
    else
     av (ai3 s1 (bV (jd+2))) fun vH=>
     if decide (vH<0)then
      some ([],jd,4)
     else
      av (sl s1 (bV (jd+2)) vH) fun x5=>
      Au (adi x5) fun x6 GY e1=>
      if e1 !=0 then
       some ([],(bV ((bV (jd+2))+GY)),e1)
      else
       av (app l1 [(aY.mk ([]:Str) true x6)]) fun l2=>
       LK s1 dL l2 (bV (vH+1))
  else
   some (l1,0,0)
def adh(s1:Str):Option (List aY × Int × Int):=
 if decide (4096<(s1.length:Int))then
  some ([],0,3)
 else
  LK s1 BIG [] 0
def J4(eY:List aB)(l1:List aY):Nat→Str→Int→Option (Str × Int)
 | 0,_,_=>none
 | dL+1,bD,i1=>
  if decide (i1<(l1.length:Int))then
   av (idx l1 i1) fun e2=>
   if !e2.Z0 then
    av (idx l1 i1) fun e3=>
    av (app bD e3.text) fun xI=>
    J4 eY l1 dL xI (bV (i1+1))
   else
    av (idx l1 i1) fun e4=>
    fI (Q5 e4.expr eY) fun x2 f2=>
    if f2 !=0 then
     some (([]:Str),f2)
    else
     fI (Q_ x2) fun t1 f3=>
     if f3 !=0 then
      some (([]:Str),f3)
     else
      av (app bD t1) fun ah3=>
      J4 eY l1 dL ah3 (bV (i1+1))
  else
   if decide (4096<(bD.length:Int))then
    some (([]:Str),3)
   else
    some (bD,0)
def aay(s1:Str)(eY:List aB):Option (Str × Int):=
 Au (adh s1) fun l1 x1 e1=>
 if e1 !=0 then
  some (([]:Str),e1)
 else
  av (WH eY) fun f1=>
  if f1 !=0 then
   some (([]:Str),f1)
  else
   J4 eY l1 BIG ([]:Str) 0
end Go.Ft
