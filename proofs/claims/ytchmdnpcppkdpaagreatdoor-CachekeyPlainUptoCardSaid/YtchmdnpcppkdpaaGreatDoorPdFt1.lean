/- Proved here: nothing: the functional texts of the functions that the statements reach, as our program wrote them. -/
import Derived.Test.YtchmdnpcppkdpaaGreatDoorPdWords
set_option linter.unusedVariables false
set_option linter.unusedSimpArgs false
set_option linter.defProp false
set_option linter.unusedSectionVars false
namespace Go.Ft
open Go
structure ah where
 kind:Int
 dR:Bool
 dS:Int
 bR:Str
 aN:List ah
 keys:List Str
structure aP where
 path:Str
 digest:BitVec 64
 deriving DecidableEq
structure aQ where
 key:Str
 restore:List Str
 files:List Str
 deriving DecidableEq
structure aD where
 name:Str
 value:ah
structure aO where
 spec:aQ
 vars:List aD
 files:List aP
structure ay where
 kind:Int
 text:Str
 at_:Int
 deriving DecidableEq
structure ak where
 ts:List ay
 at_:Int
 deriving DecidableEq
structure aA where
 at_:Int
 code:Int
 deriving DecidableEq
structure au where
 kind:Int
 name:Str
 value:ah
 args:List au
 keys:List Str
structure aU where
 text:Str
 is_:Bool
 expr:au
structure bA where
 set:List (BitVec 64)
 many:Bool
 literal:Bool
 char:UInt8
 deriving DecidableEq
structure aF where
 code:Int
 deriving DecidableEq
structure eZ where
 half:List (BitVec 64)
 neg:Bool
 deriving DecidableEq
structure agc where
 x:Int
 y:Int
 signed:Bool
 code:UInt8
 deriving DecidableEq
structure CQ where
 x:Int
 y:Int
 signed:Bool
 code:UInt8
 deriving DecidableEq
structure agb where
 msg:Str
 addr:BitVec 64
 deriving DecidableEq
structure vg where
 msg:Str
 addr:BitVec 64
 deriving DecidableEq
structure aga where
 key:Str
 restore:List Str
 files:List Str
 deriving DecidableEq
structure af_ where
 spec:aQ
 vars:List aD
 files:List aP
structure af9 where
 kind:Int
 dR:Bool
 dS:Int
 bR:Str
 aN:List ah
 keys:List Str
structure af8 where
 name:Str
 value:ah
structure af7 where
 path:Str
 digest:BitVec 64
 deriving DecidableEq
structure af6 where
 kind:Int
 name:Str
 value:ah
 args:List au
 keys:List Str
structure af5 where
 text:Str
 is_:Bool
 expr:au
structure aop where
 set:List (BitVec 64)
 many:Bool
 literal:Bool
 char:UInt8
 deriving DecidableEq
structure af4 where
 kind:Int
 text:Str
 at_:Int
 deriving DecidableEq
structure af3 where
 ts:List ay
 at_:Int
 deriving DecidableEq
structure af2 where
 at_:Int
 code:Int
 deriving DecidableEq
structure af0 where
 code:Int
 deriving DecidableEq
structure aoo where
 half:List (BitVec 64)
 neg:Bool
 deriving DecidableEq
structure afZ where
 lo:UInt8
 hi:UInt8
 deriving DecidableEq
structure FJ where
 lo:UInt8
 hi:UInt8
 deriving DecidableEq
structure aon where
 func:Str
 num:Str
 err:Option Nat
structure adf where
 func:Str
 num:Str
 err:Option Nat
structure afY where
 s:Str
 deriving DecidableEq
structure Dw where
 s:Str
 deriving DecidableEq
mutual
def ah.bulk:ah→Nat
 | ⟨a0,a1,a2,a3,a4,a5⟩=>1+1+1+(a3.length+1)+(ah.mq a4+1)+((List.map (fun z:Str=>(z.length+1)) a5).sum+1)+1
def ah.mq:List ah→Nat
 | []=>0
 | x::xs=>ah.bulk x+ah.mq xs
end
theorem ah.pF:∀l:List ah,ah.mq l=(l.map ah.bulk).sum
 | []=>rfl
 | x::l=>by simp only[ah.mq,aor,aoK,ah.pF l]
theorem ah.kW(x:ah):ah.bulk x=1+1+1+(x.bR.length+1)+(ah.mq x.aN+1)+((List.map (fun z:Str=>(z.length+1)) x.keys).sum+1)+1:=by cases x;rfl
def aP.bulk(x:aP):Nat:=(x.path.length+1)+1+1
def aQ.bulk(x:aQ):Nat:=(x.key.length+1)+((List.map (fun z:Str=>(z.length+1)) x.restore).sum+1)+((List.map (fun z:Str=>(z.length+1)) x.files).sum+1)+1
def aD.bulk(x:aD):Nat:=(x.name.length+1)+(ah.bulk x.value)+1
def aO.bulk(x:aO):Nat:=(aQ.bulk x.spec)+((List.map (fun z:aD=>(aD.bulk z)) x.vars).sum+1)+((List.map (fun z:aP=>(aP.bulk z)) x.files).sum+1)+1
def ay.bulk(x:ay):Nat:=1+(x.text.length+1)+1+1
def ak.bulk(x:ak):Nat:=((List.map (fun z:ay=>(ay.bulk z)) x.ts).sum+1)+1+1
def aA.bulk(x:aA):Nat:=1+1+1
mutual
def au.bulk:au→Nat
 | ⟨a0,a1,a2,a3,a4⟩=>1+(a1.length+1)+(ah.bulk a2)+(au.mq a3+1)+((List.map (fun z:Str=>(z.length+1)) a4).sum+1)+1
def au.mq:List au→Nat
 | []=>0
 | x::xs=>au.bulk x+au.mq xs
end
theorem au.pF:∀l:List au,au.mq l=(l.map au.bulk).sum
 | []=>rfl
 | x::l=>by simp only[au.mq,aor,aoK,au.pF l]
theorem au.kW(x:au):au.bulk x=1+(x.name.length+1)+(ah.bulk x.value)+(au.mq x.args+1)+((List.map (fun z:Str=>(z.length+1)) x.keys).sum+1)+1:=by cases x;rfl
def aU.bulk(x:aU):Nat:=(x.text.length+1)+1+(au.bulk x.expr)+1
def aF.bulk(x:aF):Nat:=1+1
def agc.bulk(x:agc):Nat:=1+1+1+1+1
def CQ.bulk(x:CQ):Nat:=1+1+1+1+1
def agb.bulk(x:agb):Nat:=(x.msg.length+1)+1+1
def vg.bulk(x:vg):Nat:=(x.msg.length+1)+1+1
def aga.bulk(x:aga):Nat:=(x.key.length+1)+((List.map (fun z:Str=>(z.length+1)) x.restore).sum+1)+((List.map (fun z:Str=>(z.length+1)) x.files).sum+1)+1
def af_.bulk(x:af_):Nat:=(aQ.bulk x.spec)+((List.map (fun z:aD=>(aD.bulk z)) x.vars).sum+1)+((List.map (fun z:aP=>(aP.bulk z)) x.files).sum+1)+1
def af9.bulk(x:af9):Nat:=1+1+1+(x.bR.length+1)+(ah.mq x.aN+1)+((List.map (fun z:Str=>(z.length+1)) x.keys).sum+1)+1
def af8.bulk(x:af8):Nat:=(x.name.length+1)+(ah.bulk x.value)+1
def af7.bulk(x:af7):Nat:=(x.path.length+1)+1+1
def af6.bulk(x:af6):Nat:=1+(x.name.length+1)+(ah.bulk x.value)+(au.mq x.args+1)+((List.map (fun z:Str=>(z.length+1)) x.keys).sum+1)+1
def af5.bulk(x:af5):Nat:=(x.text.length+1)+1+(au.bulk x.expr)+1
def af4.bulk(x:af4):Nat:=1+(x.text.length+1)+1+1
def af3.bulk(x:af3):Nat:=((List.map (fun z:ay=>(ay.bulk z)) x.ts).sum+1)+1+1
def af2.bulk(x:af2):Nat:=1+1+1
def af0.bulk(x:af0):Nat:=1+1
def afZ.bulk(x:afZ):Nat:=1+1+1
def FJ.bulk(x:FJ):Nat:=1+1+1
def afY.bulk(x:afY):Nat:=(x.s.length+1)+1
def Dw.bulk(x:Dw):Nat:=(x.s.length+1)+1
def oH(l1:List Str):Nat→Int→Option Bool
 | 0,_=>none
 | dG+1,i1=>
  if (decide (i1<(l1.length:Int)))&&(decide (i1<10))then
   av (idx l1 i1) fun e1=>
   if decide (60<(e1.length:Int))then
    some false
   else
    oH l1 dG (bq (i1+1))
  else
   some (decide ((l1.length:Int)≤10))
def Bl(l1:List Str):Option Bool:=
 oH l1 BIG 0
def uQ(iU:ah→Int→Option Int)(v1:ah):Nat→Int→Int→Option Int
 | 0,_,_=>none
 | Ea+1,aeL,i2=>
  if (decide (i2<(v1.aN.length:Int)))&&(decide (0≤aeL))then
   av (idx v1.aN i2) fun e2=>
   av (iU e2 aeL) fun al_=>
   uQ iU v1 Ea al_ (bq (i2+1))
  else
   some (bq (aeL-(bq (((v1.keys.length:Int):Int).tdiv 40))))
def uR(iU:ah→Int→Option Int)(v1:ah):Nat→Int→Int→Option Int
 | 0,_,_=>none
 | dG+1,aiN,i1=>
  if (decide (i1<(v1.keys.length:Int)))&&(decide (i1<40))then
   av (idx v1.keys i1) fun e1=>
   uR iU v1 dG (bq ((bq (aiN-1))-(bq (((e1.length:Int):Int).tdiv 8)))) (bq (i1+1))
  else
   uQ iU v1 BIG aiN 0
def Dh(iU:ah→Int→Option Int)(v1:ah)(Qt:Int):Option Int:=
 uR iU v1 BIG (bq ((bq (Qt-1))-(bq (((v1.bR.length:Int):Int).tdiv 8)))) 0
def tH:Nat→ah→Int→Option Int
 | 0,_,_=>none
 | k+1,rP,wu=>Dh (tH k) rP wu
def MH(rP:ah)(wu:Int):Option Int:=tH BIG rP wu
def uP(l1:List aP):Nat→Int→Option Bool
 | 0,_=>none
 | dG+1,i1=>
  if (decide (i1<(l1.length:Int)))&&(decide (i1<20))then
   av (idx l1 i1) fun e1=>
   if decide (120<(e1.path.length:Int))then
    some false
   else
    uP l1 dG (bq (i1+1))
  else
   some (decide ((l1.length:Int)≤20))
def Iz(l1:List aP):Option Bool:=
 uP l1 BIG 0
def yV(u1:aO):Nat→Int→Option Bool
 | 0,_=>none
 | Ea+1,i2=>
  if decide (i2<(u1.vars.length:Int))then
   av (idx u1.vars i2) fun e2=>
   av (
     if decide (120<(e2.name.length:Int))then
      some true
     else
      av (idx u1.vars i2) fun e3=>
      av (MH e3.value 100) fun x2=>
      some (decide (x2<0))) fun b2=>
   if b2 then
    some false
   else
    yV u1 Ea (bq (i2+1))
  else
   Iz u1.files
def yX(u1:aO):Nat→Int→Option Bool
 | 0,_=>none
 | dG+1,i1=>
  if decide (i1<(u1.spec.restore.length:Int))then
   av (idx u1.spec.restore i1) fun e1=>
   if decide (120<(e1.length:Int))then
    some false
   else
    yX u1 dG (bq (i1+1))
  else
   yV u1 BIG 0
def Lb(u1:aO):Option Bool:=
 av (
   if (((decide (120<(u1.spec.key.length:Int)))||(decide (10<(u1.spec.restore.length:Int))))||(decide (10<(u1.vars.length:Int))))||(decide (20<(u1.files.length:Int)))then
    some true
   else
    av (Bl u1.spec.files) fun x1=>
    some (!x1)) fun b1=>
 if b1 then
  some false
 else
  yX u1 BIG 0
def iZ(s1 kT:Str):Option Bool:=
 if decide ((kT.length:Int)≤(s1.length:Int))then
  av (sl s1 0 (kT.length:Int)) fun x1=>
  some (x1==kT)
 else
  some false
def strings_HasPrefix(s1 kT:Str):Option Bool:=
 iZ s1 kT
def lD(s1:Str):Nat→Int→Option Int
 | 0,_=>none
 | dG+1,i1=>
  if decide (i1<(s1.length:Int))then
   av (idx s1 i1) fun x1=>
   if (x1.toNat:Int)==92 then
    lD s1 dG (bq ((bq (i1+1))+1))
   else
    if (x1.toNat:Int)==34 then
     some (bq (i1+1))
    else
     lD s1 dG (bq (i1+1))
  else
   some (s1.length:Int)
def zH(s1:Str)(cZ:Int):Option Int:=
 lD s1 BIG (bq (cZ+1))
def gN(s1:Str):Nat→Int→Int→Option Int
 | 0,_,_=>none
 | dG+1,at2,iE=>
  if decide (at2<(s1.length:Int))then
   av (idx s1 at2) fun x1=>
   if (x1.toNat:Int)==34 then
    av (zH s1 at2) fun at3=>
    gN s1 dG at3 iE
   else
    if (x1.toNat:Int)==123 then
     gN s1 dG (bq (at2+1)) (bq (iE+1))
    else
     if (x1.toNat:Int)==125 then
      if iE==0 then
       some at2
      else
       gN s1 dG (bq (at2+1)) (bq (iE-1))
     else
      gN s1 dG (bq (at2+1)) iE
  else
   some (-1)
def xX(s1:Str)(cZ:Int):Option Int:=
 gN s1 BIG cZ 0
def xU(lu:Int):Option Bool:=
 some ((lu==32)||(lu==9))
def qd(s1:Str)(yB:UInt8→Option Bool):Nat→Int→Option Int
 | 0,_=>none
 | dG+1,at2=>
  av (
    if decide (at2<(s1.length:Int))then
     av (idx s1 at2) fun x1=>
     yB x1
    else
     some false) fun b1=>
  if b1 then
   qd s1 yB dG (bq (at2+1))
  else
   some at2
def tu(s1:Str)(cZ:Int)(yB:UInt8→Option Bool):Option Int:=
 qd s1 yB BIG cZ
def qh(c1:UInt8):Option Bool:=
 some ((c1.toNat:Int) !=10)
def qL(c1:UInt8):Option Bool:=
 some ((((decide (97≤(c1.toNat:Int)))&&(decide ((c1.toNat:Int)≤122)))||((decide (65≤(c1.toNat:Int)))&&(decide ((c1.toNat:Int)≤90))))||((c1.toNat:Int)==95))
def qC(c1:UInt8):Option Bool:=
 some ((decide (48≤(c1.toNat:Int)))&&(decide ((c1.toNat:Int)≤57)))
def uN(c1:UInt8):Option Bool:=
 av (qL c1) fun x1=>
 if x1 then
  some true
 else
  qC c1
def Ci(bL:Str)(cZ:Int):Option (ay × Int × Int):=
 av (tu bL cZ uN) fun sH=>
 if decide (64<(bq (sH-cZ)))then
  some ((ay.mk 0 ([]:Str) 0),0,3)
 else
  av (sl bL cZ sH) fun x1=>
  some ((ay.mk 1 x1 cZ),sH,0)
def qg(yw:Str):Nat→Int→Int→Option Bool
 | 0,_,_=>none
 | dG+1,n1,i1=>
  if (decide (i1<(yw.length:Int)))&&(decide (n1≤9007199254740992))then
   av (idx yw i1) fun x1=>
   qg yw dG (bq ((bq (10*n1))+((x1-48).toNat:Int))) (bq (i1+1))
  else
   some (decide (9007199254740992<n1))
def Dg(yw:Str):Option Bool:=
 qg yw BIG 0 0
def xS(bL:Str)(cZ:Int):Option (ay × Int × Int):=
 av (tu bL cZ qC) fun sH=>
 av (sl bL cZ sH) fun text1=>
 av (
   if decide (1<(text1.length:Int))then
    av (idx text1 0) fun x1=>
    some ((x1.toNat:Int)==48)
   else
    some false) fun b1=>
 av (
   if b1 then
    some true
   else
    if decide (sH<(bL.length:Int))then
     av (idx bL sH) fun x2=>
     qL x2
    else
     some false) fun b2=>
 if b2 then
  some ((ay.mk 0 ([]:Str) 0),0,5)
 else
  av (Dg text1) fun x4=>
  if x4 then
   some ((ay.mk 0 ([]:Str) 0),0,2)
  else
   some ((ay.mk 2 text1 cZ),sH,0)
def uO(c1:UInt8):Option Int:=
 av (qC c1) fun x1=>
 if x1 then
  some ((c1-48).toNat:Int)
 else
  if (decide (97≤(c1.toNat:Int)))&&(decide ((c1.toNat:Int)≤102))then
   some (bq (((c1-97).toNat:Int)+10))
  else
   if (decide (65≤(c1.toNat:Int)))&&(decide ((c1.toNat:Int)≤70))then
    some (bq (((c1-65).toNat:Int)+10))
   else
    some (-1)
def vN(bL:Str)(cZ:Int):Option (UInt8 × Int):=
 if decide ((bL.length:Int)≤(bq (cZ+1)))then
  some (0,0)
 else
  av (idx bL (bq (cZ+1))) fun c1=>
  if (c1.toNat:Int)==34 then
   some (c1,2)
  else
   if (c1.toNat:Int)==92 then
    some (c1,2)
   else
    if (c1.toNat:Int)==110 then
     some (10,2)
    else
     if (c1.toNat:Int)==116 then
      some (9,2)
     else
      if (c1.toNat:Int)==120 then
       av (
         if decide ((bq (cZ+3))<(bL.length:Int))then
          av (idx bL (bq (cZ+2))) fun x1=>
          av (uO x1) fun x2=>
          some (decide (0≤x2))
         else
          some false) fun b1=>
       av (
         if b1 then
          av (idx bL (bq (cZ+3))) fun x3=>
          av (uO x3) fun x4=>
          some (decide (0≤x4))
         else
          some false) fun b2=>
       if b2 then
        av (idx bL (bq (cZ+2))) fun x5=>
        av (uO x5) fun x6=>
        av (idx bL (bq (cZ+3))) fun x7=>
        av (uO x7) fun x8=>
        some ((Ft.byteOf (bq ((bq (16*x6))+x8))),4)
       else
        some (0,0)
      else
       some (0,0)
def z_(bL:Str)(cZ:Int):Option Bool:=
 av (sl bL (bq (cZ+1)) (bL.length:Int)) fun KG=>
 if (KG==([]:Str))||(KG==([120]:Str))then
  some true
 else
  av (
    if (KG.length:Int)==2 then
     av (idx KG 0) fun x1=>
     some ((x1.toNat:Int)==120)
    else
     some false) fun b2=>
  if b2 then
   av (idx KG 1) fun x2=>
   av (uO x2) fun x3=>
   some (decide (0≤x3))
  else
   some false
def pO(bL:Str)(cZ:Int):Nat→Int→Str→Option (ay × Int × Int)
 | 0,_,_=>none
 | dG+1,i1,b1=>
  if decide (i1<(bL.length:Int))then
   av (idx bL i1) fun c1=>
   if (c1.toNat:Int)==34 then
    if decide (4096<(b1.length:Int))then
     some ((ay.mk 0 ([]:Str) 0),0,3)
    else
     some ((ay.mk 3 b1 cZ),(bq (i1+1)),0)
   else
    if decide ((c1.toNat:Int)<32)then
     some ((ay.mk 0 ([]:Str) 0),0,5)
    else
     if (c1.toNat:Int)==92 then
      eD (vN bL i1) fun x1 n1=>
      av (
        if n1==0 then
         z_ bL i1
        else
         some false) fun b2=>
      if b2 then
       some ((ay.mk 0 ([]:Str) 0),0,4)
      else
       if n1==0 then
        some ((ay.mk 0 ([]:Str) 0),0,5)
       else
        av (app b1 [x1]) fun b3=>
        pO bL cZ dG (bq (i1+n1)) b3
     else
      av (app b1 [c1]) fun b4=>
      pO bL cZ dG (bq (i1+1)) b4
  else
   some ((ay.mk 0 ([]:Str) 0),0,4)
def Ch(bL:Str)(cZ:Int):Option (ay × Int × Int):=
 pO bL cZ BIG (bq (cZ+1)) []
def iT(bL:Str)(cZ:Int):Nat→Int→Option (ay × Int × Int)
 | 0,_=>none
 | dG+1,x1=>
  if decide (x1<(([2,1]:List Int).length:Int))then
   av (idx ([2,1]:List Int) x1) fun n1=>
   if decide ((bL.length:Int)<(bq (cZ+n1)))then
    iT bL cZ dG (bq (x1+1))
   else
    av (sl bL cZ (bq (cZ+n1))) fun s1=>
    if s1==([124,124]:Str)then
     some ((ay.mk 4 s1 cZ),(bq (cZ+n1)),0)
    else
     if s1==([38,38]:Str)then
      some ((ay.mk 4 s1 cZ),(bq (cZ+n1)),0)
     else
      if s1==([61,61]:Str)then
       some ((ay.mk 4 s1 cZ),(bq (cZ+n1)),0)
      else
       if s1==([33,61]:Str)then
        some ((ay.mk 4 s1 cZ),(bq (cZ+n1)),0)
       else
        if s1==([60,61]:Str)then
         some ((ay.mk 4 s1 cZ),(bq (cZ+n1)),0)
        else
         if s1==([62,61]:Str)then
          some ((ay.mk 4 s1 cZ),(bq (cZ+n1)),0)
         else
          if s1==([60]:Str)then
           some ((ay.mk 4 s1 cZ),(bq (cZ+n1)),0)
          else
           if s1==([62]:Str)then
            some ((ay.mk 4 s1 cZ),(bq (cZ+n1)),0)
           else
            if s1==([43]:Str)then
             some ((ay.mk 4 s1 cZ),(bq (cZ+n1)),0)
            else
             if s1==([45]:Str)then
              some ((ay.mk 4 s1 cZ),(bq (cZ+n1)),0)
             else
              if s1==([42]:Str)then
               some ((ay.mk 4 s1 cZ),(bq (cZ+n1)),0)
              else
               if s1==([47]:Str)then
                some ((ay.mk 4 s1 cZ),(bq (cZ+n1)),0)
               else
                if s1==([37]:Str)then
                 some ((ay.mk 4 s1 cZ),(bq (cZ+n1)),0)
                else
                 if s1==([33]:Str)then
                  some ((ay.mk 4 s1 cZ),(bq (cZ+n1)),0)
                 else
                  if s1==([63]:Str)then
                   some ((ay.mk 4 s1 cZ),(bq (cZ+n1)),0)
                  else
                   if s1==([58]:Str)then
                    some ((ay.mk 4 s1 cZ),(bq (cZ+n1)),0)
                   else
                    if s1==([46]:Str)then
                     some ((ay.mk 4 s1 cZ),(bq (cZ+n1)),0)
                    else
                     if s1==([44]:Str)then
                      some ((ay.mk 4 s1 cZ),(bq (cZ+n1)),0)
                     else
                      if s1==([61]:Str)then
                       some ((ay.mk 4 s1 cZ),(bq (cZ+n1)),0)
                      else
                       if s1==([40]:Str)then
                        some ((ay.mk 4 s1 cZ),(bq (cZ+n1)),0)
                       else
                        if s1==([41]:Str)then
                         some ((ay.mk 4 s1 cZ),(bq (cZ+n1)),0)
                        else
                         if s1==([91]:Str)then
                          some ((ay.mk 4 s1 cZ),(bq (cZ+n1)),0)
                         else
                          if s1==([93]:Str)then
                           some ((ay.mk 4 s1 cZ),(bq (cZ+n1)),0)
                          else
                           if s1==([123]:Str)then
                            some ((ay.mk 4 s1 cZ),(bq (cZ+n1)),0)
                           else
                            if s1==([125]:Str)then
                             some ((ay.mk 4 s1 cZ),(bq (cZ+n1)),0)
                            else
                             iT bL cZ dG (bq (x1+1))
  else
   some ((ay.mk 0 ([]:Str) 0),0,5)
def tC(bL:Str)(cZ:Int):Option (ay × Int × Int):=
 iT bL cZ BIG 0
def z8(bL:Str)(cZ:Int):Option (ay × Int × Int):=
 av (idx bL cZ) fun c1=>
 av (qL c1) fun x1=>
 if x1 then
  Ci bL cZ
 else
  av (qC c1) fun x5=>
  if x5 then
   xS bL cZ
  else
   if (c1.toNat:Int)==34 then
    Ch bL cZ
   else
    tC bL cZ
def tF(op1:Str)(iE:Int):Option Int:=
 if op1==([40]:Str)then
  some (bq (iE+1))
 else
  if op1==([91]:Str)then
   some (bq (iE+1))
  else
   if op1==([41]:Str)then
    some (if 0<(bq (iE-1))then (bq (iE-1))else 0)
   else
    if op1==([93]:Str)then
     some (if 0<(bq (iE-1))then (bq (iE-1))else 0)
    else
     some iE
def iM(bL:Str):Nat→List ay→Int→Int→Nat→Option (List ay × Int × Int)
 | 0,_,_,_,_=>none
 | dG+1,bM,jV,iE,pos1=>
  if decide (pos1<bL.length)then
   av (
     if decide ((pos1:Int)<jV)then
      some true
     else
      xU ((dec bL pos1).1:Int)) fun b1=>
   if b1 then
    iM bL dG bM jV iE (pos1+(dec bL pos1).2)
   else
    if ((dec bL pos1).1:Int)==35 then
     av (tu bL (pos1:Int) qh) fun D9=>
     iM bL dG bM D9 iE (pos1+(dec bL pos1).2)
    else
     if ((dec bL pos1).1:Int)==10 then
      av (
        if iE==0 then
         if (bM.length:Int)==0 then
          some true
         else
          av (idx bM (bq ((bM.length:Int)-1))) fun e1=>
          some (e1.kind !=5)
        else
         some false) fun b2=>
      if b2 then
       av (app bM [(ay.mk 5 ([]:Str) (pos1:Int))]) fun xM=>
       iM bL dG xM jV iE (pos1+(dec bL pos1).2)
      else
       iM bL dG bM jV iE (pos1+(dec bL pos1).2)
     else
      mD (z8 bL (pos1:Int)) fun x2 sH e2=>
      if e2 !=0 then
       some ([],(pos1:Int),e2)
      else
       if x2.kind==4 then
        av (tF x2.text iE) fun Xg=>
        av (app bM [x2]) fun KW=>
        iM bL dG KW sH Xg (pos1+(dec bL pos1).2)
       else
        av (app bM [x2]) fun ajU=>
        iM bL dG ajU sH iE (pos1+(dec bL pos1).2)
  else
   some (bM,0,0)
def mW(bL:Str):Option (List ay × Int × Int):=
 if decide (65536<(bL.length:Int))then
  some ([],0,3)
 else
  iM bL BIG [] 0 0 0
def vK(c1:UInt8):Option Bool:=
 some ((((decide (97≤(c1.toNat:Int)))&&(decide ((c1.toNat:Int)≤122)))||((decide (65≤(c1.toNat:Int)))&&(decide ((c1.toNat:Int)≤90))))||((c1.toNat:Int)==95))
def mV(c1:UInt8):Option Bool:=
 some ((decide (48≤(c1.toNat:Int)))&&(decide ((c1.toNat:Int)≤57)))
def qb(s1:Str):Nat→Int→Option Bool
 | 0,_=>none
 | dG+1,i1=>
  if decide (i1<(s1.length:Int))then
   av (idx s1 i1) fun x3=>
   av (vK x3) fun x4=>
   av (
     if !x4 then
      av (idx s1 i1) fun x5=>
      av (mV x5) fun x6=>
      some (!x6)
     else
      some false) fun b2=>
   if b2 then
    some false
   else
    qb s1 dG (bq (i1+1))
  else
   some true
def wV(s1:Str):Option Bool:=
 av (
   if (decide ((s1.length:Int)<1))||(decide (64<(s1.length:Int)))then
    some true
   else
    av (idx s1 0) fun x1=>
    av (vK x1) fun x2=>
    some (!x2)) fun b1=>
 if b1 then
  some false
 else
  qb s1 BIG 0
def strconv_Itoa(n1:Int):Option Str:=
 if -9223372036854775808≤n1∧n1≤9223372036854775807 then some (tK n1)else none
def strconv_Atoi(s1:Str):Option (Int × Option Nat):=
 if s1.length≤281474976710656 then some ((uj s1).2,if (uj s1).1=0 then none else some 267)else none
def kD(s1:Str):Nat→Int→Option Bool
 | 0,_=>none
 | dG+1,i1=>
  if decide (i1<(s1.length:Int))then
   av (idx s1 i1) fun x2=>
   av (mV x2) fun x3=>
   if !x3 then
    some false
   else
    kD s1 dG (bq (i1+1))
  else
   eD (strconv_Atoi s1) fun n1 QJ=>
   some ((QJ.isNone)&&(decide (n1≤9007199254740992)))
def sZ(s1:Str):Option Bool:=
 av (
   if s1==([]:Str)then
    some true
   else
    if decide (1<(s1.length:Int))then
     av (idx s1 0) fun x1=>
     some ((x1.toNat:Int)==48)
    else
     some false) fun b1=>
 if b1 then
  some false
 else
  kD s1 BIG 0
def jf(t1:ay):Option Bool:=
 if t1.kind==1 then
  wV t1.text
 else
  if t1.kind==2 then
   sZ t1.text
  else
   if t1.kind==3 then
    some (decide ((t1.text.length:Int)≤4096))
   else
    if t1.kind==4 then
     some true
    else
     some false
def jg(lu:ak):Option (ay × ak):=
 av (
   if decide (lu.at_<(lu.ts.length:Int))then
    av (idx lu.ts lu.at_) fun e1=>
    jf e1
   else
    some false) fun b1=>
 if b1 then
  av (idx lu.ts lu.at_) fun e2=>
  some (e2,lu)
 else
  some ((ay.mk 0 ([]:Str) 0),lu)
def uL(lu:ak)(op1:Str):Option (Bool × ak):=
 eD (jg lu) fun x1 y1=>
 some (((x1.kind==4)&&(x1.text==op1)),y1)
def b_(lu:ak)(op1:Str):Option (Bool × ak):=
 eD (uL lu op1) fun x1 y1=>
 if !x1 then
  some (false,y1)
 else
  some (true,(ak.mk y1.ts (bq (y1.at_+1))))
def gy(lu:ak)(e1:Int):Option (fq aA Unit × ak):=
 some (.bad (aA.mk lu.at_ e1),lu)
def jh(lu:ak):Option (fq aA ay × ak):=
 if decide ((lu.ts.length:Int)≤lu.at_)then
  fJ (gy lu 4) (fun e1 y2=>some (.bad e1,y2)) fun _ y1=>
  eD (jg y1) fun x1 y3=>
  if x1.kind==0 then
   fJ (gy y3 5) (fun e2 y5=>some (.bad e2,y5)) fun _ y4=>
   some (.ok x1,y4)
  else
   some (.ok x1,y3)
 else
  eD (jg lu) fun x2 y6=>
  if x2.kind==0 then
   fJ (gy y6 5) (fun e3 y8=>some (.bad e3,y8)) fun _ y7=>
   some (.ok x2,y7)
  else
   some (.ok x2,y6)
def qc(v1:ah):Option au:=
 some (au.mk 1 ([]:Str) v1 [] [])
def oN(s1:Str):Option Bool:=
 some (((s1==([116,114,117,101]:Str))||(s1==([102,97,108,115,101]:Str)))||(s1==([110,117,108,108]:Str)))
def fA(lu:ak)(op1:Str):Option (fq aA Unit × ak):=
 fJ (jh lu) (fun e1 y2=>some (.bad e1,y2)) fun x1 y1=>
 eD (b_ y1 op1) fun x2 y3=>
 if !x2 then
  fJ (gy y3 5) (fun e2 y5=>some (.bad e2,y5)) fun _ y4=>
  some (.ok (),y4)
 else
  some (.ok (),y3)
def g_(op1:Str):Option Int:=
 if op1==([124,124]:Str)then
  some 2
 else
  if op1==([38,38]:Str)then
   some 3
  else
   if op1==([61,61]:Str)then
    some 4
   else
    if op1==([33,61]:Str)then
     some 4
    else
     if op1==([60]:Str)then
      some 4
     else
      if op1==([60,61]:Str)then
       some 4
      else
       if op1==([62]:Str)then
        some 4
       else
        if op1==([62,61]:Str)then
         some 4
        else
         if op1==([43]:Str)then
          some 5
         else
          if op1==([45]:Str)then
           some 5
          else
           if op1==([42]:Str)then
            some 6
           else
            if op1==([47]:Str)then
             some 6
            else
             if op1==([37]:Str)then
              some 6
             else
              some 0
def kU(aL:ak→Option (fq aA au × ak))(aV:ak→Int→Option (fq aA au × ak))(bC bF bY:ak→Option (fq aA au × ak))(bX:ak→Str→Option (fq aA au × ak))(bT:ak→Str→Option (fq aA (List au) × ak))(bJ:ak→Option (fq aA au × ak))(lu:ak):Option (fq aA au × ak):=
 fJ (aV lu 2) (fun e1 y2=>some (.bad e1,y2)) fun x1 y1=>
 eD (b_ y1 ([63]:Str)) fun x2 y3=>
 if !x2 then
  some (.ok x1,y3)
 else
  fJ (aL y3) (fun e2 y5=>some (.bad e2,y5)) fun x3 y4=>
  fJ (fA y4 ([58]:Str)) (fun e3 y7=>some (.bad e3,y7)) fun _ y6=>
  fJ (aL y6) (fun e4 y9=>some (.bad e4,y9)) fun x4 y8=>
  some (.ok (au.mk 8 ([]:Str) (ah.mk 0 false 0 ([]:Str) [] []) [x1,x3,x4] []),y8)
def iw(aV:ak→Int→Option (fq aA au × ak))(n1:Int):Nat→au→ak→Option (fq aA au × ak)
 | 0,_,_=>none
 | dG+1,e3,y5=>
  eD (jg y5) fun x3 y6=>
  av (
    if x3.kind !=4 then
     some true
    else
     av (g_ x3.text) fun x4=>
     some (x4 !=n1)) fun b1=>
  if b1 then
   some (.ok e3,y6)
  else
   fJ (aV (ak.mk y6.ts (bq (y6.at_+1))) (bq (n1+1))) (fun e4 y8=>some (.bad e4,y8)) fun x5 y7=>
   if n1==4 then
    some (.ok (au.mk 7 x3.text (ah.mk 0 false 0 ([]:Str) [] []) [e3,x5] []),y7)
   else
    iw aV n1 dG (au.mk 7 x3.text (ah.mk 0 false 0 ([]:Str) [] []) [e3,x5] []) y7
def jF(aL:ak→Option (fq aA au × ak))(aV:ak→Int→Option (fq aA au × ak))(bC bF bY:ak→Option (fq aA au × ak))(bX:ak→Str→Option (fq aA au × ak))(bT:ak→Str→Option (fq aA (List au) × ak))(bJ:ak→Option (fq aA au × ak))(lu:ak)(n1:Int):Option (fq aA au × ak):=
 if n1==7 then
  fJ (bC lu) (fun e1 y2=>some (.bad e1,y2)) fun x1 y1=>
  some (.ok x1,y1)
 else
  fJ (aV lu (bq (n1+1))) (fun e2 y4=>some (.bad e2,y4)) fun x2 y3=>
  iw aV n1 BIG x2 y3
def iH(bC bF:ak→Option (fq aA au × ak)):Nat→Int→ak→Option (fq aA au × ak)
 | 0,_,_=>none
 | dG+1,x1,y1=>
  if decide (x1<(([([33]:Str),([45]:Str)]:List Str).length:Int))then
   av (idx ([([33]:Str),([45]:Str)]:List Str) x1) fun op1=>
   eD (b_ y1 op1) fun x2 y2=>
   if x2 then
    fJ (bC y2) (fun e1 y4=>some (.bad e1,y4)) fun x3 y3=>
    some (.ok (au.mk 6 op1 (ah.mk 0 false 0 ([]:Str) [] []) [x3] []),y3)
   else
    iH bC bF dG (bq (x1+1)) y2
  else
   fJ (bF y1) (fun e2 y6=>some (.bad e2,y6)) fun x4 y5=>
   some (.ok x4,y5)
def oC(aL:ak→Option (fq aA au × ak))(aV:ak→Int→Option (fq aA au × ak))(bC bF bY:ak→Option (fq aA au × ak))(bX:ak→Str→Option (fq aA au × ak))(bT:ak→Str→Option (fq aA (List au) × ak))(bJ:ak→Option (fq aA au × ak))(lu:ak):Option (fq aA au × ak):=
 iH bC bF BIG 0 lu
def fT(aL:ak→Option (fq aA au × ak)):Nat→au→ak→Option (fq aA au × ak)
 | 0,_,_=>none
 | dG+1,e2,y3=>
  eD (b_ y3 ([46]:Str)) fun x2 y4=>
  if x2 then
   fJ (jh y4) (fun e3 y6=>some (.bad e3,y6)) fun x3 y5=>
   av (
     if x3.kind !=1 then
      some true
     else
      oN x3.text) fun b1=>
   if b1 then
    fJ (gy y5 5) (fun e4 y8=>some (.bad e4,y8)) fun _ y7=>
    fT aL dG (au.mk 3 x3.text (ah.mk 0 false 0 ([]:Str) [] []) [e2] []) (ak.mk y7.ts (bq (y7.at_+1)))
   else
    fT aL dG (au.mk 3 x3.text (ah.mk 0 false 0 ([]:Str) [] []) [e2] []) (ak.mk y5.ts (bq (y5.at_+1)))
  else
   eD (b_ y4 ([91]:Str)) fun x5 y9=>
   if x5 then
    fJ (aL y9) (fun e5 y11=>some (.bad e5,y11)) fun x6 y10=>
    fJ (fA y10 ([93]:Str)) (fun e6 y13=>some (.bad e6,y13)) fun _ y12=>
    fT aL dG (au.mk 4 ([]:Str) (ah.mk 0 false 0 ([]:Str) [] []) [e2,x6] []) y12
   else
    some (.ok e2,y9)
def oD(aL:ak→Option (fq aA au × ak))(aV:ak→Int→Option (fq aA au × ak))(bC bF bY:ak→Option (fq aA au × ak))(bX:ak→Str→Option (fq aA au × ak))(bT:ak→Str→Option (fq aA (List au) × ak))(bJ:ak→Option (fq aA au × ak))(lu:ak):Option (fq aA au × ak):=
 fJ (bY lu) (fun e1 y2=>some (.bad e1,y2)) fun x1 y1=>
 fT aL BIG x1 y1
def oP(aL:ak→Option (fq aA au × ak))(aV:ak→Int→Option (fq aA au × ak))(bC bF bY:ak→Option (fq aA au × ak))(bX:ak→Str→Option (fq aA au × ak))(bT:ak→Str→Option (fq aA (List au) × ak))(bJ:ak→Option (fq aA au × ak))(lu:ak):Option (fq aA au × ak):=
 fJ (jh lu) (fun e1 y2=>some (.bad e1,y2)) fun x1 y1=>
 if x1.kind==2 then
  eD (strconv_Atoi x1.text) fun n1 x2=>
  av (qc (ah.mk 2 false n1 ([]:Str) [] [])) fun x3=>
  some (.ok x3,(ak.mk y1.ts (bq (y1.at_+1))))
 else
  if x1.kind==3 then
   av (qc (ah.mk 3 false 0 x1.text [] [])) fun x4=>
   some (.ok x4,(ak.mk y1.ts (bq (y1.at_+1))))
  else
   if x1.kind==1 then
    fJ (bX (ak.mk y1.ts (bq (y1.at_+1))) x1.text) (fun e2 y4=>some (.bad e2,y4)) fun x5 y3=>
    some (.ok x5,y3)
   else
    eD (b_ y1 ([40]:Str)) fun x6 y5=>
    if x6 then
     fJ (aL y5) (fun e3 y7=>some (.bad e3,y7)) fun x7 y6=>
     fJ (fA y6 ([41]:Str)) (fun e4 y9=>some (.bad e4,y9)) fun _ y8=>
     some (.ok x7,y8)
    else
     eD (b_ y5 ([91]:Str)) fun x8 y10=>
     if x8 then
      fJ (bT y10 ([93]:Str)) (fun e5 y12=>some (.bad e5,y12)) fun x9 y11=>
      some (.ok (au.mk 9 ([]:Str) (ah.mk 0 false 0 ([]:Str) [] []) x9 []),y11)
     else
      eD (b_ y10 ([123]:Str)) fun Kn y13=>
      if Kn then
       fJ (bJ y13) (fun e6 y15=>some (.bad e6,y15)) fun RP y14=>
       some (.ok RP,y14)
      else
       fJ (gy y13 5) (fun e7 y17=>some (.bad e7,y17)) fun _ y16=>
       some (.ok (au.mk 0 ([]:Str) (ah.mk 0 false 0 ([]:Str) [] []) [] []),y16)
def oO(aL:ak→Option (fq aA au × ak))(aV:ak→Int→Option (fq aA au × ak))(bC bF bY:ak→Option (fq aA au × ak))(bX:ak→Str→Option (fq aA au × ak))(bT:ak→Str→Option (fq aA (List au) × ak))(bJ:ak→Option (fq aA au × ak))(lu:ak)(s1:Str):Option (fq aA au × ak):=
 if s1==([110,117,108,108]:Str)then
  av (qc (ah.mk 0 false 0 ([]:Str) [] [])) fun x1=>
  some (.ok x1,lu)
 else
  av (oN s1) fun x2=>
  if x2 then
   av (qc (ah.mk 1 (s1==([116,114,117,101]:Str)) 0 ([]:Str) [] [])) fun x3=>
   some (.ok x3,lu)
  else
   eD (b_ lu ([40]:Str)) fun x4 y1=>
   if x4 then
    fJ (bT y1 ([41]:Str)) (fun e1 y3=>some (.bad e1,y3)) fun x5 y2=>
    some (.ok (au.mk 5 s1 (ah.mk 0 false 0 ([]:Str) [] []) x5 []),y2)
   else
    some (.ok (au.mk 2 s1 (ah.mk 0 false 0 ([]:Str) [] []) [] []),y1)
def jL(aL:ak→Option (fq aA au × ak))(sH:Str):Nat→List au→ak→Option (fq aA (List au) × ak)
 | 0,_,_=>none
 | dG+1,bM,y2=>
  fJ (aL y2) (fun e1 y4=>some (.bad e1,y4)) fun x2 y3=>
  av (app bM [x2]) fun xM=>
  eD (b_ y3 ([44]:Str)) fun x3 y5=>
  if !x3 then
   fJ (fA y5 sH) (fun e2 y7=>some (.bad e2,y7)) fun _ y6=>
   some (.ok xM,y6)
  else
   jL aL sH dG xM y5
def oQ(aL:ak→Option (fq aA au × ak))(aV:ak→Int→Option (fq aA au × ak))(bC bF bY:ak→Option (fq aA au × ak))(bX:ak→Str→Option (fq aA au × ak))(bT:ak→Str→Option (fq aA (List au) × ak))(bJ:ak→Option (fq aA au × ak))(lu:ak)(sH:Str):Option (fq aA (List au) × ak):=
 eD (b_ lu sH) fun x1 y1=>
 if x1 then
  some (.ok [],y1)
 else
  jL aL sH BIG [] y1
def gV(aL:ak→Option (fq aA au × ak)):Nat→au→ak→Option (fq aA au × ak)
 | 0,_,_=>none
 | dG+1,bM,y2=>
  fJ (jh y2) (fun e1 y4=>some (.bad e1,y4)) fun x2 y3=>
  if (x2.kind !=1)&&(x2.kind !=3)then
   fJ (gy y3 5) (fun e2 y6=>some (.bad e2,y6)) fun _ y5=>
   fJ (fA (ak.mk y5.ts (bq (y5.at_+1))) ([58]:Str)) (fun e3 y8=>some (.bad e3,y8)) fun _ y7=>
   av (app bM.keys ([x2.text]:List Str)) fun x3=>
   fJ (aL y7) (fun e4 y10=>some (.bad e4,y10)) fun x4 y9=>
   av (app bM.args [x4]) fun x5=>
   eD (b_ y9 ([44]:Str)) fun x6 y11=>
   if !x6 then
    fJ (fA y11 ([125]:Str)) (fun e5 y13=>some (.bad e5,y13)) fun _ y12=>
    some (.ok (au.mk bM.kind bM.name bM.value x5 x3),y12)
   else
    gV aL dG (au.mk bM.kind bM.name bM.value x5 x3) y11
  else
   fJ (fA (ak.mk y3.ts (bq (y3.at_+1))) ([58]:Str)) (fun e6 y15=>some (.bad e6,y15)) fun _ y14=>
   av (app bM.keys ([x2.text]:List Str)) fun x7=>
   fJ (aL y14) (fun e7 y17=>some (.bad e7,y17)) fun x8 y16=>
   av (app bM.args [x8]) fun x9=>
   eD (b_ y16 ([44]:Str)) fun Kn y18=>
   if !Kn then
    fJ (fA y18 ([125]:Str)) (fun e8 y20=>some (.bad e8,y20)) fun _ y19=>
    some (.ok (au.mk bM.kind bM.name bM.value x9 x7),y19)
   else
    gV aL dG (au.mk bM.kind bM.name bM.value x9 x7) y18
def l8(aL:ak→Option (fq aA au × ak))(aV:ak→Int→Option (fq aA au × ak))(bC bF bY:ak→Option (fq aA au × ak))(bX:ak→Str→Option (fq aA au × ak))(bT:ak→Str→Option (fq aA (List au) × ak))(bJ:ak→Option (fq aA au × ak))(lu:ak):Option (fq aA au × ak):=
 eD (b_ lu ([125]:Str)) fun x1 y1=>
 if x1 then
  some (.ok (au.mk 10 ([]:Str) (ah.mk 0 false 0 ([]:Str) [] []) [] []),y1)
 else
  gV aL BIG (au.mk 10 ([]:Str) (ah.mk 0 false 0 ([]:Str) [] []) [] []) y1
mutual
def aY:Nat→ak→Option (fq aA au × ak)
 | 0,_=>none
 | k+1,eG=>kU (aY k) (bB k) (dx k) (dQ k) (dY k) (eO k) (dK k) (dD k) eG
def bB:Nat→ak→Int→Option (fq aA au × ak)
 | 0,_,_=>none
 | k+1,eG,UD=>jF (aY k) (bB k) (dx k) (dQ k) (dY k) (eO k) (dK k) (dD k) eG UD
def dx:Nat→ak→Option (fq aA au × ak)
 | 0,_=>none
 | k+1,eG=>oC (aY k) (bB k) (dx k) (dQ k) (dY k) (eO k) (dK k) (dD k) eG
def dQ:Nat→ak→Option (fq aA au × ak)
 | 0,_=>none
 | k+1,eG=>oD (aY k) (bB k) (dx k) (dQ k) (dY k) (eO k) (dK k) (dD k) eG
def dY:Nat→ak→Option (fq aA au × ak)
 | 0,_=>none
 | k+1,eG=>oP (aY k) (bB k) (dx k) (dQ k) (dY k) (eO k) (dK k) (dD k) eG
def eO:Nat→ak→Str→Option (fq aA au × ak)
 | 0,_,_=>none
 | k+1,eG,qB=>oO (aY k) (bB k) (dx k) (dQ k) (dY k) (eO k) (dK k) (dD k) eG qB
def dK:Nat→ak→Str→Option (fq aA (List au) × ak)
 | 0,_,_=>none
 | k+1,eG,Ca=>oQ (aY k) (bB k) (dx k) (dQ k) (dY k) (eO k) (dK k) (dD k) eG Ca
def dD:Nat→ak→Option (fq aA au × ak)
 | 0,_=>none
 | k+1,eG=>l8 (aY k) (bB k) (dx k) (dQ k) (dY k) (eO k) (dK k) (dD k) eG
end
def p9(eG:ak):Option (fq aA au × ak):=aY BIG eG
def D7(eG:ak)(UD:Int):Option (fq aA au × ak):=bB BIG eG UD
def IY(eG:ak):Option (fq aA au × ak):=dx BIG eG
def IZ(eG:ak):Option (fq aA au × ak):=dQ BIG eG
def JN(eG:ak):Option (fq aA au × ak):=dY BIG eG
def JM(eG:ak)(qB:Str):Option (fq aA au × ak):=eO BIG eG qB
def JO(eG:ak)(Ca:Str):Option (fq aA (List au) × ak):=dK BIG eG Ca
def FN(eG:ak):Option (fq aA au × ak):=dD BIG eG
def Dc(lq:List ay):Option (au × Int × Int):=
 fJ (p9 (ak.mk lq 0)) (fun f1 _=>some ((au.mk 0 ([]:Str) (ah.mk 0 false 0 ([]:Str) [] []) [] []),f1.at_,f1.code)) fun e1 r1=>
 some (e1,r1.at_,0)
def qU(jU:au→Option Int)(e1:au):Nat→Int→Int→Option Int
 | 0,_,_=>none
 | dG+1,n1,x1=>
  if decide (x1<(e1.args.length:Int))then
   av (idx e1.args x1) fun e2=>
   av (jU e2) fun x2=>
   qU jU e1 dG (bq (n1+x2)) (bq (x1+1))
  else
   some n1
def xL(jU:au→Option Int)(e1:au):Option Int:=
 qU jU e1 BIG 1 0
def nV:Nat→au→Option Int
 | 0,_=>none
 | k+1,oG=>xL (nV k) oG
def Bf(oG:au):Option Int:=nV BIG oG
def Db(v1:ah):Option Bool:=
 some ((((((v1.kind==0)&&(!v1.dR))&&(v1.dS==0))&&(v1.bR==([]:Str)))&&((v1.aN.length:Int)==0))&&((v1.keys.length:Int)==0))
def mU(s1:Str):Option Bool:=
 av (wV s1) fun x1=>
 if x1 then
  av (oN s1) fun x2=>
  some (!x2)
 else
  some false
def xH(e1:au):Option Bool:=
 if e1.kind==2 then
  mU e1.name
 else
  if e1.kind==3 then
   mU e1.name
  else
   if e1.kind==5 then
    mU e1.name
   else
    if e1.kind==6 then
     some ((e1.name==([33]:Str))||(e1.name==([45]:Str)))
    else
     if e1.kind==7 then
      av (g_ e1.name) fun x4=>
      some (decide (0<x4))
     else
      some (e1.name==([]:Str))
def xJ(e1:au):Option Bool:=
 if e1.kind==1 then
  some ((e1.args.length:Int)==0)
 else
  if e1.kind==2 then
   some ((e1.args.length:Int)==0)
  else
   if e1.kind==3 then
    some ((e1.args.length:Int)==1)
   else
    if e1.kind==6 then
     some ((e1.args.length:Int)==1)
    else
     if e1.kind==4 then
      some ((e1.args.length:Int)==2)
     else
      if e1.kind==7 then
       some ((e1.args.length:Int)==2)
      else
       if e1.kind==8 then
        some ((e1.args.length:Int)==3)
       else
        some true
def fU(s1:List Str)(f1:Str→Option Bool):Nat→Int→Option Int
 | 0,_=>none
 | dG+1,i1=>
  if decide (i1<(s1.length:Int))then
   av (idx s1 i1) fun e1=>
   av (f1 e1) fun x1=>
   if x1 then
    some i1
   else
    fU s1 f1 dG (bq (i1+1))
  else
   some (-1)
def iR(s1:List Str)(f1:Str→Option Bool):Option Int:=
 fU s1 f1 BIG 0
def fV(s1:List Str)(f1:Str→Option Bool):Option Bool:=
 av (iR s1 f1) fun x1=>
 some (decide (0≤x1))
def jO(CR:Str):Option Bool:=
 some ((decide ((CR.length:Int)<1))||(decide (64<(CR.length:Int))))
def xI(e1:au):Option Bool:=
 if e1.kind !=10 then
  some ((e1.keys.length:Int)==0)
 else
  if (e1.keys.length:Int)==(e1.args.length:Int)then
   av (fV e1.keys jO) fun x1=>
   some (!x1)
  else
   some false
def kg{β:Type}(go:β→ah→Int→Option (Bool × β))(v1:ah)(bN:Int):Nat→β→Int→Option (Bool × β)
 | 0,_,_=>none
 | dG+1,s1,i1=>
  if decide (i1<(v1.aN.length:Int))then
   av (idx v1.aN i1) fun x1=>
   eD (go s1 x1 (bq (bN+1))) fun b1 s2=>
   if !b1 then
    some (false,s2)
   else
    kg go v1 bN dG s2 (bq (i1+1))
  else
   some (true,s1)
def uy{β:Type}(go:β→ah→Int→Option (Bool × β))(y:β→Int→ah→Option (Bool × β))(s1:β)(v1:ah)(bN:Int):Option (Bool × β):=
 eD (y s1 bN v1) fun b1 s2=>
 if !b1 then
  some (false,s2)
 else
  kg go v1 bN BIG s2 0
def fQ{β:Type}(y:β→Int→ah→Option (Bool × β)):Nat→β→ah→Int→Option (Bool × β)
 | 0,_,_,_=>none
 | k+1,s1,v1,bN=>uy (fQ y k) y s1 v1 bN
def BX{β:Type}(y:β→Int→ah→Option (Bool × β))(s1:β)(v1:ah)(bN:Int):Option (Bool × β):=fQ y BIG s1 v1 bN
def AB(v1:ah):Option Bool:=
 some ((((((v1.kind==1)||(!v1.dR))&&((v1.kind==2)||(v1.dS==0)))&&((v1.kind==3)||(v1.bR==([]:Str))))&&(((v1.kind==4)||(v1.kind==5))||((v1.aN.length:Int)==0)))&&((v1.kind==5)||((v1.keys.length:Int)==0)))
def Dk(c1:UInt8):Option Bool:=
 some ((decide (48≤(c1.toNat:Int)))&&(decide ((c1.toNat:Int)≤57)))
def xY(s1:Str):Nat→Int→Option Int
 | 0,_=>none
 | dG+1,n1=>
  av (
    if decide (n1<(s1.length:Int))then
     av (idx s1 n1) fun x1=>
     Dk x1
    else
     some false) fun b1=>
  if b1 then
   xY s1 dG (bq (n1+1))
  else
   some n1
def BL(s1:Str):Option Int:=
 xY s1 BIG 0
def iq(c1:UInt8):Nat→Str→Option Str
 | 0,_=>none
 | dG+1,s2=>
  av (
    if decide (0<(s2.length:Int))then
     av (idx s2 0) fun x1=>
     some ((x1.toNat:Int)==(c1.toNat:Int))
    else
     some false) fun b1=>
  if b1 then
   av (sl s2 1 (s2.length:Int)) fun s3=>
   iq c1 dG s3
  else
   some s2
def strings_trimLeftByte(s1:Str)(c1:UInt8):Option Str:=
 iq c1 BIG s1
def nL(s1 Fa:Str):Option Str:=
 if (s1==([]:Str))||(Fa==([]:Str))then
  some s1
 else
  av (
    if (Fa.length:Int)==1 then
     av (idx Fa 0) fun x1=>
     some (decide ((x1.toNat:Int)<128))
    else
     some false) fun b1=>
  if b1 then
   av (idx Fa 0) fun x2=>
   strings_trimLeftByte s1 x2
  else
   none
def cmp_isNaN_int(x1:Int):Option Bool:=
 some (x1 !=x1)
def cmp_Compare_int(x1 y1:Int):Option Int:=
 av (cmp_isNaN_int x1) fun V6=>
 av (cmp_isNaN_int y1) fun Nk=>
 if V6 then
  if Nk then
   some 0
  else
   some (-1)
 else
  if Nk then
   some 1
  else
   if decide (x1<y1)then
    some (-1)
   else
    if decide (y1<x1)then
     some 1
    else
     some 0
def cmp_isNaN_string(x1:Str):Option Bool:=
 some (!(x1==x1))
def lH(x1 y1:Str):Option Int:=
 av (cmp_isNaN_string x1) fun V6=>
 av (cmp_isNaN_string y1) fun Nk=>
 if V6 then
  if Nk then
   some 0
  else
   some (-1)
 else
  if Nk then
   some 1
  else
   if Go.Op.bytesLess x1 y1 then
    some (-1)
   else
    if !(Go.Op.bytesLess x1 y1||x1==y1)then
     some 1
    else
     some 0
def vS(F5:List Int):Nat→Int→Option Int
 | 0,_=>none
 | dG+1,x1=>
  if decide (x1<(F5.length:Int))then
   av (idx F5 x1) fun ady=>
   if ady !=0 then
    some ady
   else
    vS F5 dG (bq (x1+1))
  else
   some 0
def CG(F5:List Int):Option Int:=
 vS F5 BIG 0
def vO(a1 b1:Str):Option Int:=
 av (nL a1 ([48]:Str)) fun x1=>
 av (nL b1 ([48]:Str)) fun y1=>
 av (cmp_Compare_int (x1.length:Int) (y1.length:Int)) fun x2=>
 av (lH x1 y1) fun x3=>
 av (cmp_Compare_int (a1.length:Int) (b1.length:Int)) fun x4=>
 CG ([x2,x3,x4]:List Int)
def ug(x1:UInt8):Option Bool:=
 some ((x1.toNat:Int) !=(x1.toNat:Int))
def qy(x1 y1:UInt8):Option Int:=
 av (ug x1) fun V6=>
 av (ug y1) fun Nk=>
 if V6 then
  if Nk then
   some 0
  else
   some (-1)
 else
  if Nk then
   some 1
  else
   if decide ((x1.toNat:Int)<(y1.toNat:Int))then
    some (-1)
   else
    if decide ((y1.toNat:Int)<(x1.toNat:Int))then
     some 1
    else
     some 0
def jA:Nat→Str→Str→Option Int
 | 0,_,_=>none
 | dG+1,a2,b2=>
  if (!(a2==([]:Str)))&&(!(b2==([]:Str)))then
   av (BL a2) fun n1=>
   av (BL b2) fun m1=>
   if (decide (0<n1))&&(decide (0<m1))then
    av (sl a2 0 n1) fun x1=>
    av (sl b2 0 m1) fun x2=>
    av (vO x1 x2) fun c1=>
    if c1 !=0 then
     some c1
    else
     av (sl a2 n1 (a2.length:Int)) fun a3=>
     av (sl b2 m1 (b2.length:Int)) fun b3=>
     jA dG a3 b3
   else
    av (idx a2 0) fun x3=>
    av (idx b2 0) fun x4=>
    if (x3.toNat:Int) !=(x4.toNat:Int)then
     av (idx a2 0) fun x5=>
     av (idx b2 0) fun x6=>
     qy x5 x6
    else
     av (sl a2 1 (a2.length:Int)) fun a4=>
     av (sl b2 1 (b2.length:Int)) fun b4=>
     jA dG a4 b4
  else
   cmp_Compare_int (a2.length:Int) (b2.length:Int)
def iC(a1 b1:Str):Option Int:=
 jA BIG a1 b1
def pX(v1:ah):Nat→Int→Option Bool
 | 0,_=>none
 | dG+1,i1=>
  if decide (i1<(v1.keys.length:Int))then
   av (idx v1.keys i1) fun CR=>
   av (
     if (decide ((CR.length:Int)<1))||(decide (64<(CR.length:Int)))then
      some true
     else
      if decide (0<i1)then
       av (idx v1.keys (bq (i1-1))) fun e1=>
       av (iC e1 CR) fun x1=>
       some (decide (0≤x1))
      else
       some false) fun b1=>
   if b1 then
    some false
   else
    pX v1 dG (bq (i1+1))
  else
   some true
def zM(v1:ah):Option Bool:=
 if (v1.keys.length:Int) !=(v1.aN.length:Int)then
  some false
 else
  pX v1 BIG 0
def BZ(v1:ah)(bN:Int):Option Int:=
 if decide (16<bN)then
  some 13
 else
  av (
    if (decide (v1.kind<0))||(decide (5<v1.kind))then
     some true
    else
     av (AB v1) fun x1=>
     some (!x1)) fun b1=>
  if b1 then
   some 1
  else
   if (decide (v1.dS<(-9007199254740992)))||(decide (9007199254740992<v1.dS))then
    some 2
   else
    if ((decide (4096<(v1.bR.length:Int)))||(decide (1024<(v1.aN.length:Int))))||(decide (1024<(v1.keys.length:Int)))then
     some 3
    else
     av (
       if v1.kind==5 then
        av (zM v1) fun x2=>
        some (!x2)
       else
        some false) fun b2=>
     if b2 then
      some 1
     else
      if (((v1.kind==4)||(v1.kind==5))&&((v1.aN.length:Int)==0))&&(bN==16)then
       some 13
      else
       some 0
def lK(s1:Option Int)(bN:Int)(x1:ah):Option (Bool × Option Int):=
 match s1 with
 | some _=>none
 | none=>
  av (BZ x1 bN) fun e1=>
  if !(e1==0)then
   some (false,some e1)
  else
   some (true,none)
def kL(v1:ah):Option Int:=
 eD (BX lK none v1 1) fun _ s1=>
 some (s1.getD 0)
def nU(l1:List Str):Nat→Int→List (Str × Int)→Option Bool
 | 0,_,_=>none
 | dG+1,x1,y1=>
  if decide (x1<(l1.length:Int))then
   av (idx l1 x1) fun s1=>
   if decide (1<(rR (vL y1 s1 (bq ((rR y1 s1)+1))) s1))then
    some true
   else
    nU l1 dG (bq (x1+1)) (vL y1 s1 (bq ((rR y1 s1)+1)))
  else
   some false
def qR(l1:List Str):Option Bool:=
 nU l1 BIG 0 []
def zW(e1:au)(bN:Int):Option Int:=
 if decide (16<bN)then
  some 13
 else
  av (
    if (decide (e1.kind<1))||(decide (10<e1.kind))then
     some true
    else
     if e1.kind !=1 then
      av (Db e1.value) fun x1=>
      some (!x1)
     else
      some false) fun b1=>
  av (
    if b1 then
     some true
    else
     av (xH e1) fun x2=>
     some (!x2)) fun b3=>
  av (
    if b3 then
     some true
    else
     av (xJ e1) fun x3=>
     some (!x3)) fun b4=>
  av (
    if b4 then
     some true
    else
     av (xI e1) fun x4=>
     some (!x4)) fun b5=>
  if b5 then
   some 1
  else
   av (
     if e1.kind==1 then
      av (kL e1.value) fun x5=>
      some (x5 !=0)
     else
      some false) fun b6=>
   if b6 then
    kL e1.value
   else
    if decide (1024<(e1.args.length:Int))then
     some 3
    else
     av (qR e1.keys) fun x7=>
     if x7 then
      some 7
     else
      some 0
def qQ(jT:au→Int→Option Int)(e1:au)(bN:Int):Nat→Int→Option Int
 | 0,_=>none
 | dG+1,x1=>
  if decide (x1<(e1.args.length:Int))then
   av (idx e1.args x1) fun e2=>
   av (jT e2 (bq (bN+1))) fun f2=>
   if f2 !=0 then
    some f2
   else
    qQ jT e1 bN dG (bq (x1+1))
  else
   some 0
def xG(jT:au→Int→Option Int)(e1:au)(bN:Int):Option Int:=
 av (zW e1 bN) fun f1=>
 if f1 !=0 then
  some f1
 else
  qQ jT e1 bN BIG 0
def nT:Nat→au→Int→Option Int
 | 0,_,_=>none
 | k+1,oG,jo=>xG (nT k) oG jo
def ES(oG:au)(jo:Int):Option Int:=nT BIG oG jo
def lN(e1:au):Option Int:=
 av (Bf e1) fun x1=>
 if decide (4096<x1)then
  some 15
 else
  ES e1 1
def zX(lq:List ay):Option (au × Int × Int):=
 mD (Dc lq) fun x1 n1 uf=>
 if uf !=0 then
  some ((au.mk 0 ([]:Str) (ah.mk 0 false 0 ([]:Str) [] []) [] []),n1,uf)
 else
  av (lN x1) fun Lv=>
  if Lv !=0 then
   some ((au.mk 0 ([]:Str) (ah.mk 0 false 0 ([]:Str) [] []) [] []),0,Lv)
  else
   some (x1,n1,0)
def Bc(lq:List ay)(n1:Int)(bL:Str):Option Int:=
 if decide (n1<(lq.length:Int))then
  av (idx lq n1) fun e1=>
  some e1.at_
 else
  some (bL.length:Int)
def xK(bL:Str):Option (au × Int × Int):=
 mD (mW bL) fun lq cZ uf=>
 if uf !=0 then
  some ((au.mk 0 ([]:Str) (ah.mk 0 false 0 ([]:Str) [] []) [] []),cZ,uf)
 else
  mD (zX lq) fun x1 n1 Lv=>
  if Lv !=0 then
   av (Bc lq n1 bL) fun x2=>
   some ((au.mk 0 ([]:Str) (ah.mk 0 false 0 ([]:Str) [] []) [] []),x2,Lv)
  else
   if decide (n1<(lq.length:Int))then
    av (idx lq n1) fun e1=>
    some ((au.mk 0 ([]:Str) (ah.mk 0 false 0 ([]:Str) [] []) [] []),e1.at_,5)
   else
    some (x1,0,0)
def gM(jH:List aU)(text1:Str):Option (List aU):=
 if decide (0<(text1.length:Int))then app jH [(aU.mk text1 false (au.mk 0 ([]:Str) (ah.mk 0 false 0 ([]:Str) [] []) [] []))]else some jH
def h_(s1:Str):Nat→Int→List aU→Str→Option (List aU × Int × Int)
 | 0,_,_,_=>none
 | dG+1,cZ,jH,text1=>
  if decide (cZ<(s1.length:Int))then
   av (sl s1 cZ (s1.length:Int)) fun KG=>
   av (strings_HasPrefix KG ([36,36]:Str)) fun b1=>
   if b1 then
    av (app text1 [36]) fun WC=>
    h_ s1 dG (bq (cZ+2)) jH WC
   else
    av (strings_HasPrefix KG ([36,123]:Str)) fun b2=>
    if b2 then
     av (xX s1 (bq (cZ+2))) fun sH=>
     if decide (sH<0)then
      some ([],cZ,4)
     else
      av (sl s1 (bq (cZ+2)) sH) fun x1=>
      mD (xK x1) fun e1 n1 uf=>
      if uf !=0 then
       some ([],(bq ((bq (cZ+2))+n1)),uf)
      else
       av (gM jH text1) fun U4=>
       av (app U4 [(aU.mk ([]:Str) true e1)]) fun U3=>
       h_ s1 dG (bq (sH+1)) U3 []
    else
     av (idx s1 cZ) fun c1=>
     av (app text1 [c1]) fun adV=>
     h_ s1 dG (bq (cZ+1)) jH adV
  else
   av (gM jH text1) fun aaD=>
   some (aaD,0,0)
def jy(s1:Str):Option (List aU × Int × Int):=
 if decide (4096<(s1.length:Int))then
  some ([],0,3)
 else
  h_ s1 BIG 0 [] []
def iN(s1:Str):Option Int:=
 if s1==([]:Str)then
  some 1
 else
  mD (jy s1) fun x1 x2 e1=>
  some e1
def lS(s1 kT:Str):Option Str:=
 av (iZ s1 kT) fun x1=>
 if x1 then
  sl s1 (kT.length:Int) (s1.length:Int)
 else
  some s1
def strings_TrimPrefix(s1 kT:Str):Option Str:=
 lS s1 kT
def rG(s1:List (BitVec 64))(c1:UInt8):Option (List (BitVec 64)):=
 av (idx ([(s1.getD 0 0),(s1.getD 1 0),(s1.getD 2 0),(s1.getD 3 0)]:List (BitVec 64)) ((c1/64).toNat:Int)) fun e1=>
 av (some (e1 &&& ~~~ ((1:BitVec 64) <<< (c1%64).toNat))) fun x1=>
 av (idx ([(s1.getD 0 0),(s1.getD 1 0),(s1.getD 2 0),(s1.getD 3 0)]:List (BitVec 64)) ((c1/64).toNat:Int)) fun e2=>
 av (some (List.set ([(s1.getD 0 0),(s1.getD 1 0),(s1.getD 2 0),(s1.getD 3 0)]:List (BitVec 64)) (Int.toNat ((c1/64).toNat:Int)) x1)) fun y1=>
 some ([(y1.getD 0 0),(y1.getD 1 0),(y1.getD 2 0),(y1.getD 3 0)]:List (BitVec 64))
def yZ(UL:Bool):Option (List (BitVec 64)):=
 if !UL then
  av (rG ([18446744073709551615,18446744073709551615,18446744073709551615,18446744073709551615]:List (BitVec 64)) 47) fun y1=>
  some ([(y1.getD 0 0),(y1.getD 1 0),(y1.getD 2 0),(y1.getD 3 0)]:List (BitVec 64))
 else
  some ([18446744073709551615,18446744073709551615,18446744073709551615,18446744073709551615]:List (BitVec 64))
def BP(s1:Str):Option (UInt8 × Int):=
 av (
   if s1==([]:Str)then
    some true
   else
    av (idx s1 0) fun x1=>
    some ((x1.toNat:Int)==93)) fun b1=>
 av (
   if b1 then
    some true
   else
    av (idx s1 0) fun x2=>
    some ((x2.toNat:Int)==45)) fun b2=>
 if b2 then
  some (0,0)
 else
  av (idx s1 0) fun x3=>
  if (x3.toNat:Int) !=92 then
   av (idx s1 0) fun x4=>
   some (x4,1)
  else
   if decide ((s1.length:Int)<2)then
    some (0,0)
   else
    av (idx s1 1) fun x5=>
    some (x5,2)
def mY(s1:List (BitVec 64))(c1:UInt8):Option (List (BitVec 64)):=
 av (idx ([(s1.getD 0 0),(s1.getD 1 0),(s1.getD 2 0),(s1.getD 3 0)]:List (BitVec 64)) ((c1/64).toNat:Int)) fun e1=>
 av (some (e1 ||| ((1:BitVec 64) <<< (c1%64).toNat))) fun x1=>
 av (idx ([(s1.getD 0 0),(s1.getD 1 0),(s1.getD 2 0),(s1.getD 3 0)]:List (BitVec 64)) ((c1/64).toNat:Int)) fun e2=>
 av (some (List.set ([(s1.getD 0 0),(s1.getD 1 0),(s1.getD 2 0),(s1.getD 3 0)]:List (BitVec 64)) (Int.toNat ((c1/64).toNat:Int)) x1)) fun y1=>
 some ([(y1.getD 0 0),(y1.getD 1 0),(y1.getD 2 0),(y1.getD 3 0)]:List (BitVec 64))
def rM(cZ n1:Int)(xV:UInt8)(n2:Int)(iy:Int→List (BitVec 64)→Option (List (BitVec 64) × Int)):Nat→Int→List (BitVec 64)→Option (List (BitVec 64) × Int)
 | 0,_,_=>none
 | Ea+1,c1,xM=>
  if decide (c1≤(xV.toNat:Int))then
   av (mY ([(xM.getD 0 0),(xM.getD 1 0),(xM.getD 2 0),(xM.getD 3 0)]:List (BitVec 64)) (Ft.byteOf c1)) fun y1=>
   rM cZ n1 xV n2 iy Ea (bq (c1+1)) ([(y1.getD 0 0),(y1.getD 1 0),(y1.getD 2 0),(y1.getD 3 0)]:List (BitVec 64))
  else
   iy (bq ((bq (cZ+n1))+(bq (1+n2)))) ([(xM.getD 0 0),(xM.getD 1 0),(xM.getD 2 0),(xM.getD 3 0)]:List (BitVec 64))
def rJ(cZ:Int)(pQ:UInt8)(n1:Int)(iy:Int→List (BitVec 64)→Option (List (BitVec 64) × Int)):Nat→Int→List (BitVec 64)→Option (List (BitVec 64) × Int)
 | 0,_,_=>none
 | kk3+1,c2,KW=>
  if decide (c2≤(pQ.toNat:Int))then
   av (mY ([(KW.getD 0 0),(KW.getD 1 0),(KW.getD 2 0),(KW.getD 3 0)]:List (BitVec 64)) (Ft.byteOf c2)) fun y2=>
   rJ cZ pQ n1 iy kk3 (bq (c2+1)) ([(y2.getD 0 0),(y2.getD 1 0),(y2.getD 2 0),(y2.getD 3 0)]:List (BitVec 64))
  else
   iy (bq (cZ+n1)) ([(KW.getD 0 0),(KW.getD 1 0),(KW.getD 2 0),(KW.getD 3 0)]:List (BitVec 64))
def lU(s1:Str):Nat→Int→List (BitVec 64)→Option (List (BitVec 64) × Int)
 | 0,_,_=>none
 | dG+1,cZ,bM=>
  av (
    if cZ==1 then
     some true
    else
     if decide (cZ<(s1.length:Int))then
      av (idx s1 cZ) fun x1=>
      some ((x1.toNat:Int) !=93)
     else
      some false) fun b1=>
  if b1 then
   av (sl s1 cZ (s1.length:Int)) fun x2=>
   eD (BP x2) fun pQ n1=>
   if n1==0 then
    some (([(bM.getD 0 0),(bM.getD 1 0),(bM.getD 2 0),(bM.getD 3 0)]:List (BitVec 64)),0)
   else
    av (
      if decide ((bq (cZ+n1))<(s1.length:Int))then
       av (idx s1 (bq (cZ+n1))) fun x3=>
       some ((x3.toNat:Int)==45)
      else
       some false) fun b3=>
    if b3 then
     av (sl s1 (bq ((bq (cZ+n1))+1)) (s1.length:Int)) fun x4=>
     eD (BP x4) fun xV n2=>
     if (n2==0)||(decide ((xV.toNat:Int)<(pQ.toNat:Int)))then
      some (([(bM.getD 0 0),(bM.getD 1 0),(bM.getD 2 0),(bM.getD 3 0)]:List (BitVec 64)),0)
     else
      rM cZ n1 xV n2 (lU s1 dG) BIG (pQ.toNat:Int) ([(bM.getD 0 0),(bM.getD 1 0),(bM.getD 2 0),(bM.getD 3 0)]:List (BitVec 64))
    else
     rJ cZ pQ n1 (lU s1 dG) BIG (pQ.toNat:Int) ([(bM.getD 0 0),(bM.getD 1 0),(bM.getD 2 0),(bM.getD 3 0)]:List (BitVec 64))
  else
   if decide ((s1.length:Int)≤cZ)then
    some (([(bM.getD 0 0),(bM.getD 1 0),(bM.getD 2 0),(bM.getD 3 0)]:List (BitVec 64)),0)
   else
    av (rG ([(bM.getD 0 0),(bM.getD 1 0),(bM.getD 2 0),(bM.getD 3 0)]:List (BitVec 64)) 47) fun y3=>
    some (([(y3.getD 0 0),(y3.getD 1 0),(y3.getD 2 0),(y3.getD 3 0)]:List (BitVec 64)),(bq (cZ+1)))
def EZ(s1:Str):Option (List (BitVec 64) × Int):=
 lU s1 BIG 1 ([0,0,0,0]:List (BitVec 64))
def uU(c1:UInt8):Option bA:=
 av (mY ([0,0,0,0]:List (BitVec 64)) c1) fun y1=>
 some (bA.mk ([(y1.getD 0 0),(y1.getD 1 0),(y1.getD 2 0),(y1.getD 3 0)]:List (BitVec 64)) false true c1)
def Cq(p1:Str):Option (bA × Int):=
 av (idx p1 0) fun x1=>
 if (x1.toNat:Int)==42 then
  av (
    if decide (1<(p1.length:Int))then
     av (idx p1 1) fun x2=>
     some ((x2.toNat:Int)==42)
    else
     some false) fun b1=>
  if b1 then
   av (yZ true) fun x3=>
   some ((bA.mk ([(x3.getD 0 0),(x3.getD 1 0),(x3.getD 2 0),(x3.getD 3 0)]:List (BitVec 64)) true false 0),2)
  else
   av (yZ false) fun x4=>
   some ((bA.mk ([(x4.getD 0 0),(x4.getD 1 0),(x4.getD 2 0),(x4.getD 3 0)]:List (BitVec 64)) true false 0),1)
 else
  if (x1.toNat:Int)==63 then
   av (yZ false) fun x5=>
   some ((bA.mk ([(x5.getD 0 0),(x5.getD 1 0),(x5.getD 2 0),(x5.getD 3 0)]:List (BitVec 64)) false false 0),1)
  else
   if (x1.toNat:Int)==91 then
    eD (EZ p1) fun x6 n1=>
    some ((bA.mk ([(x6.getD 0 0),(x6.getD 1 0),(x6.getD 2 0),(x6.getD 3 0)]:List (BitVec 64)) false false 0),n1)
   else
    if (x1.toNat:Int)==92 then
     if decide ((p1.length:Int)<2)then
      some ((bA.mk ([0,0,0,0]:List (BitVec 64)) false false 0),0)
     else
      av (idx p1 1) fun x7=>
      av (uU x7) fun x8=>
      some (x8,2)
    else
     av (idx p1 0) fun x9=>
     av (uU x9) fun Kn=>
     some (Kn,1)
def rH:Nat→Str→List bA→Option (List bA × Int)
 | 0,_,_=>none
 | dG+1,p2,l1=>
  if !(p2==([]:Str))then
   eD (Cq p2) fun x1 n1=>
   if n1==0 then
    some ([],5)
   else
    av (app l1 [x1]) fun l2=>
    av (sl p2 n1 (p2.length:Int)) fun p3=>
    rH dG p3 l2
  else
   some (l1,0)
def yY(p1:Str):Option (List bA × Int):=
 if decide (4096<(p1.length:Int))then
  some ([],3)
 else
  rH BIG p1 []
def Cr(KV:Str):Option Int:=
 eD (yY KV) fun x1 e1=>
 some e1
def fE(c1:aQ):Nat→Int→Option Int
 | 0,_=>none
 | Ea+1,x2=>
  if decide (x2<(c1.files.length:Int))then
   av (idx c1.files x2) fun s2=>
   av (strings_TrimPrefix s2 ([33]:Str)) fun x3=>
   av (Cr x3) fun e3=>
   if e3 !=0 then
    some e3
   else
    fE c1 Ea (bq (x2+1))
  else
   some 0
def iV(c1:aQ):Nat→Int→Option Int
 | 0,_=>none
 | dG+1,x1=>
  if decide (x1<(c1.restore.length:Int))then
   av (idx c1.restore x1) fun s1=>
   av (iN s1) fun e2=>
   if e2 !=0 then
    some e2
   else
    iV c1 dG (bq (x1+1))
  else
   fE c1 BIG 0
def gQ(c1:aQ):Option Int:=
 av (iN c1.key) fun e1=>
 if e1 !=0 then
  some e1
 else
  if (decide (1024<(c1.restore.length:Int)))||(decide (1024<(c1.files.length:Int)))then
   some 3
  else
   iV c1 BIG 0
def dU(s1:List aD)(f1:aD→Option Bool):Nat→Int→Option Int
 | 0,_=>none
 | dG+1,i1=>
  if decide (i1<(s1.length:Int))then
   av (idx s1 i1) fun e1=>
   av (f1 e1) fun x1=>
   if x1 then
    some i1
   else
    dU s1 f1 dG (bq (i1+1))
  else
   some (-1)
def gu(s1:List aD)(f1:aD→Option Bool):Option Int:=
 dU s1 f1 BIG 0
def dB(s1:List aD)(f1:aD→Option Bool):Option Bool:=
 av (gu s1 f1) fun x1=>
 some (decide (0≤x1))
def iI(x1:aD):Option Bool:=
 some (x1.name==([102,105,108,101,115]:Str))
def uT(s1:List (BitVec 64))(c1:UInt8):Option Bool:=
 av (idx ([(s1.getD 0 0),(s1.getD 1 0),(s1.getD 2 0),(s1.getD 3 0)]:List (BitVec 64)) ((c1/64).toNat:Int)) fun e1=>
 av (some ((e1 >>> (c1%64).toNat) &&& (1:BitVec 64))) fun x1=>
 some ((x1.toNat:Int)==1)
def uS(l1:List bA):Nat→Int→List Bool→Option (List Bool)
 | 0,_,_=>none
 | dG+1,i1,a1=>
  if decide (i1<(l1.length:Int))then
   av (idx l1 i1) fun x1=>
   av (idx a1 (bq (i1+1))) fun b1=>
   av (
     if b1 then
      some true
     else
      av (idx a1 i1) fun b2=>
      some (b2&&x1.many)) fun b3=>
   av (some (List.set a1 (Int.toNat (bq (i1+1))) b3)) fun a2=>
   uS l1 dG (bq (i1+1)) a2
  else
   some a1
def BO(l1:List bA)(a1:List Bool):Option (List Bool):=
 uS l1 BIG 0 a1
def K7(n1:Int):Option (List Bool):=if 0≤n1∧n1≤281474976710656 then some (List.replicate n1.toNat false)else none
def nE(l1:List bA)(s1:Str)(i1:Int)(a1:List Bool)(go:Int→List Bool→Option Bool):Nat→Int→List Bool→Option Bool
 | 0,_,_=>none
 | Ea+1,k1,Va=>
  if decide (k1<(l1.length:Int))then
   av (idx l1 k1) fun x1=>
   av (idx a1 k1) fun b1=>
   av (
     if !b1 then
      some true
     else
      av (idx s1 i1) fun c1=>
      av (uT x1.set c1) fun b2=>
      some (!b2)) fun b3=>
   if b3 then
    nE l1 s1 i1 a1 go Ea (bq (k1+1)) Va
   else
    if x1.many then
     av (idx Va k1) fun b4=>
     av (some (List.set Va (Int.toNat k1) true)) fun nx2=>
     nE l1 s1 i1 a1 go Ea (bq (k1+1)) nx2
    else
     av (idx Va (bq (k1+1))) fun b4=>
     av (some (List.set Va (Int.toNat (bq (k1+1))) true)) fun nx2=>
     nE l1 s1 i1 a1 go Ea (bq (k1+1)) nx2
  else
   av (BO l1 Va) fun a2=>
   go (bq (i1+1)) a2
def nG(l1:List bA)(s1:Str):Nat→Int→List Bool→Option Bool
 | 0,_,_=>none
 | dG+1,i1,a1=>
  if decide (i1<(s1.length:Int))then
   av (K7 (bq ((l1.length:Int)+1))) fun Va=>
   nE l1 s1 i1 a1 (nG l1 s1 dG) BIG 0 Va
  else
   idx a1 (l1.length:Int)
def za(p1 s1:Str):Option Bool:=
 eD (yY p1) fun l1 e1=>
 if e1 !=0 then
  some false
 else
  av (K7 (bq ((l1.length:Int)+1))) fun a0=>
  av (idx a0 0) fun b0=>
  av (some (List.set a0 (Int.toNat 0) true)) fun a1=>
  av (BO l1 a1) fun a2=>
  nG l1 s1 BIG 0 a2
def tQ(jK:List Str)(s1:Str):Nat→Int→Option Bool
 | 0,_=>none
 | dG+1,i1=>
  if decide (0≤i1)then
   av (idx jK i1) fun p1=>
   av (
     if !(p1==([]:Str))then
      av (idx p1 0) fun x1=>
      some ((x1.toNat:Int)==33)
     else
      some false) fun b1=>
   if b1 then
    av (sl p1 1 (p1.length:Int)) fun p2=>
    av (za p2 s1) fun x2=>
    if x2 then
     some (!b1)
    else
     tQ jK s1 dG (bq (i1-1))
   else
    av (za p1 s1) fun x3=>
    if x3 then
     some (!b1)
    else
     tQ jK s1 dG (bq (i1-1))
  else
   some false
def Ct(jK:List Str)(s1:Str):Option Bool:=
 tQ jK s1 BIG (bq ((jK.length:Int)-1))
def jl{β:Type}(y:β→aP→Option (Bool × β))(fs1:List aP)(ps1:List Str):Nat→β→Int→Option β
 | 0,_,_=>none
 | dG+1,s1,i1=>
  if decide (i1<(fs1.length:Int))then
   av (idx fs1 i1) fun f1=>
   av (Ct ps1 f1.path) fun b1=>
   if b1 then
    eD (y s1 f1) fun b2 s2=>
    if !b2 then
     some s2
    else
     jl y fs1 ps1 dG s2 (bq (i1+1))
   else
    jl y fs1 ps1 dG s1 (bq (i1+1))
  else
   some s1
def sw{β:Type}(y:β→aP→Option (Bool × β))(s1:β)(fs1:List aP)(ps1:List Str):Option β:=jl y fs1 ps1 BIG s1 0
def yx(lu CR i1:BitVec 32):Option (BitVec 32):=
 av (some ((lu ^^^ CR)*(2654435761:BitVec 32))) fun x1=>
 some ((x1+i1) ^^^ ((x1+i1) >>> 16))
def pR(key1:BitVec 64):Nat→BitVec 32→BitVec 32→Int→Option (BitVec 64)
 | 0,_,_,_=>none
 | dG+1,l1,lu,i1=>
  if decide (i1<4)then
   if ((i1:Int).tmod 2)==1 then
    av (yx lu (BitVec.setWidth 32 (key1 >>> 32)) (BitVec.ofInt 32 (bq (i1+1)))) fun x2=>
    pR key1 dG lu (l1 ^^^ x2) (bq (i1+1))
   else
    av (yx lu (BitVec.setWidth 32 key1) (BitVec.ofInt 32 (bq (i1+1)))) fun x3=>
    pR key1 dG lu (l1 ^^^ x3) (bq (i1+1))
  else
   some (((BitVec.setWidth 64 l1) <<< 32) ||| (BitVec.setWidth 64 lu))
def zm(key1 x1:BitVec 64):Option (BitVec 64):=
 pR key1 BIG (BitVec.setWidth 32 (x1 >>> 32)) (BitVec.setWidth 32 x1) 0
def rO(b2:List UInt8)(x2:BitVec 64)(x3:List UInt8)(Ee:List UInt8→BitVec 64→Option (BitVec 64)):Nat→BitVec 64→Int→Option (BitVec 64)
 | 0,_,_=>none
 | Ea+1,g1,i1=>
  if decide (i1<(x3.length:Int))then
   av (idx x3 i1) fun c1=>
   av (OV (decide (0≤(bq (8*i1))))) fun _=>
   av (some (g1 ||| ((BitVec.setWidth 64 c1.toBitVec) <<< (Int.toNat (bq (8*i1)))))) fun g2=>
   rO b2 x2 x3 Ee Ea g2 (bq (i1+1))
  else
   av (zm g1 x2) fun x4=>
   av (sl b2 (if (b2.length:Int)<8 then (b2.length:Int)else 8) (b2.length:Int)) fun b3=>
   Ee b3 (x4 ^^^ g1)
def nH:Nat→List UInt8→BitVec 64→Option (BitVec 64)
 | 0,_,_=>none
 | dG+1,b2,x2=>
  if decide (0<(b2.length:Int))then
   av (sl b2 0 (if (b2.length:Int)<8 then (b2.length:Int)else 8)) fun x3=>
   rO b2 x2 x3 (nH dG) BIG 0 0
  else
   some x2
def t_(b1:List UInt8):Option (BitVec 64):=
 av (zm (BitVec.ofInt 64 (b1.length:Int)) 0) fun x1=>
 nH BIG b1 x1
def uX(x2:Int)(d1:BitVec 64)(FC:List UInt8→Int→Option (BitVec 64)):Nat→List UInt8→Int→Option (BitVec 64)
 | 0,_,_=>none
 | Ea+1,b3,i1=>
  if decide (i1<8)then
   av (OV (decide (0≤(bq (8*i1))))) fun _=>
   av (app b3 ([(UInt8.ofBitVec (BitVec.setWidth 8 (d1 >>> (Int.toNat (bq (8*i1))))))]:List UInt8)) fun b4=>
   uX x2 d1 FC Ea b4 (bq (i1+1))
  else
   FC b3 (bq (x2+1))
def pE(nS:List (BitVec 64)):Nat→List UInt8→Int→Option (BitVec 64)
 | 0,_,_=>none
 | dG+1,b2,x2=>
  if decide (x2<(nS.length:Int))then
   av (idx nS x2) fun d1=>
   uX x2 d1 (pE nS dG) BIG b2 0
  else
   t_ b2
def zl(Vh:Str)(nS:List (BitVec 64)):Option (BitVec 64):=
 av (app ([]:Str) Vh) fun x1=>
 av (app x1 ([0]:List UInt8)) fun b1=>
 pE nS BIG b1 0
def mM(s1:List (BitVec 64))(x1:aP):Option (Bool × List (BitVec 64)):=
 av (app ([]:Str) x1.path) fun b1=>
 av (t_ b1) fun d1=>
 av (app s1 ([d1,x1.digest]:List (BitVec 64))) fun s2=>
 some (true,s2)
def nI(qo:List aP)(jK:List Str):Option (BitVec 64):=
 av (sw mM [] qo jK) fun nS=>
 zl ([102,105,108,101,115]:Str) nS
def qx(d1:BitVec 64):Nat→Int→List UInt8→Option Str
 | 0,_,_=>none
 | dG+1,i1,b1=>
  if decide (i1<16)then
   av (OV (decide (0≤(bq (60-(bq (4*i1))))))) fun _=>
   av (some ((d1 >>> (Int.toNat (bq (60-(bq (4*i1)))))) &&& (15:BitVec 64))) fun x1=>
   av (idx ([48,49,50,51,52,53,54,55,56,57,97,98,99,100,101,102]:Str) (x1.toNat:Int)) fun x2=>
   av (idx ([(b1.getD 0 0),(b1.getD 1 0),(b1.getD 2 0),(b1.getD 3 0),(b1.getD 4 0),(b1.getD 5 0),(b1.getD 6 0),(b1.getD 7 0),(b1.getD 8 0),(b1.getD 9 0),(b1.getD 10 0),(b1.getD 11 0),(b1.getD 12 0),(b1.getD 13 0),(b1.getD 14 0),(b1.getD 15 0)]:List UInt8) i1) fun e1=>
   av (some (List.set ([(b1.getD 0 0),(b1.getD 1 0),(b1.getD 2 0),(b1.getD 3 0),(b1.getD 4 0),(b1.getD 5 0),(b1.getD 6 0),(b1.getD 7 0),(b1.getD 8 0),(b1.getD 9 0),(b1.getD 10 0),(b1.getD 11 0),(b1.getD 12 0),(b1.getD 13 0),(b1.getD 14 0),(b1.getD 15 0)]:List UInt8) (Int.toNat i1) x2)) fun b2=>
   qx d1 dG (bq (i1+1)) ([(b2.getD 0 0),(b2.getD 1 0),(b2.getD 2 0),(b2.getD 3 0),(b2.getD 4 0),(b2.getD 5 0),(b2.getD 6 0),(b2.getD 7 0),(b2.getD 8 0),(b2.getD 9 0),(b2.getD 10 0),(b2.getD 11 0),(b2.getD 12 0),(b2.getD 13 0),(b2.getD 14 0),(b2.getD 15 0)]:List UInt8)
  else
   some ([(b1.getD 0 0),(b1.getD 1 0),(b1.getD 2 0),(b1.getD 3 0),(b1.getD 4 0),(b1.getD 5 0),(b1.getD 6 0),(b1.getD 7 0),(b1.getD 8 0),(b1.getD 9 0),(b1.getD 10 0),(b1.getD 11 0),(b1.getD 12 0),(b1.getD 13 0),(b1.getD 14 0),(b1.getD 15 0)]:List UInt8)
def pz(d1:BitVec 64):Option Str:=
 qx d1 BIG 0 ([0,0,0,0,0,0,0,0,0,0,0,0,0,0,0,0]:List UInt8)
def cO(s1:List aD):Option (List aD):=
 app [] s1
def jZ(c1:aQ)(iJ:List aD)(qo:List aP):Option (List aD × Int):=
 av (gQ c1) fun e1=>
 if e1 !=0 then
  some ([],e1)
 else
  av (dB iJ iI) fun x1=>
  if x1 then
   some ([],7)
  else
   av (nI qo c1.files) fun x2=>
   av (pz x2) fun x3=>
   av (cO iJ) fun x4=>
   av (app x4 [(aD.mk ([102,105,108,101,115]:Str) (ah.mk 3 false 0 x3 [] []))]) fun x5=>
   some (x5,0)
def Ac(jD:List aD):Nat→Int→List (Str × Int)→Option Int
 | 0,_,_=>none
 | dG+1,x1,y1=>
  if decide (x1<(jD.length:Int))then
   av (idx jD x1) fun e1=>
   av (lN (au.mk 2 e1.name (ah.mk 0 false 0 ([]:Str) [] []) [] [])) fun x2=>
   if x2 !=0 then
    some 1
   else
    av (kL e1.value) fun e2=>
    if e2 !=0 then
     some e2
    else
     if decide (1<(rR (vL y1 e1.name (bq ((rR y1 e1.name)+1))) e1.name))then
      some 7
     else
      Ac jD dG (bq (x1+1)) (vL y1 e1.name (bq ((rR y1 e1.name)+1)))
  else
   some 0
def Cw(jD:List aD):Option Int:=
 if decide (1024<(jD.length:Int))then
  some 3
 else
  Ac jD BIG 0 []
def Dm(e1:au)(jD:List aD):Option (List aD × Int):=
 av (Cw jD) fun f1=>
 if f1 !=0 then
  some ([],f1)
 else
  av (lN e1) fun f2=>
  if f2 !=0 then
   some ([],f2)
  else
   some (jD,0)
def zi(e1:Int):Option (fq aF Unit):=
 some (.bad (aF.mk e1))
def nZ(s1:List aD)(name1:Str):Nat→Int→Option (fq aF ah)
 | 0,_=>none
 | dG+1,x1=>
  if decide (x1<(s1.length:Int))then
   av (idx s1 x1) fun e1=>
   if e1.name==name1 then
    some (.ok e1.value)
   else
    nZ s1 name1 dG (bq (x1+1))
  else
   dM (zi 10) (fun e2=>some (.bad e2)) fun _=>
   some (.ok (ah.mk 0 false 0 ([]:Str) [] []))
def qZ(s1:List aD)(name1:Str):Option (fq aF ah):=
 nZ s1 name1 BIG 0
def lF(s1:Str):Option ah:=
 some (ah.mk 3 false 0 s1 [] [])
def iD(v1:ah)(Di:Int):Option Bool:=
 some (v1.kind==Di)
def dN(ok1:Bool)(e1:Int):Option (fq aF Unit):=
 if !ok1 then
  dM (zi e1) (fun e2=>some (.bad e2)) fun _=>
  some (.ok ())
 else
  some (.ok ())
def gX(s1:List Str)(v1:Str):Nat→Int→Option Int
 | 0,_=>none
 | dG+1,i1=>
  if decide (i1<(s1.length:Int))then
   av (idx s1 i1) fun e1=>
   if v1==e1 then
    some i1
   else
    gX s1 v1 dG (bq (i1+1))
  else
   some (-1)
def iL(s1:List Str)(v1:Str):Option Int:=
 gX s1 v1 BIG 0
def gH(s1:List Str):Option (List Str):=
 app [] s1
def sN(kG:ah→Option ah)(v1:ah):Nat→Int→ah→Option ah
 | 0,_,_=>none
 | dG+1,x2,bM=>
  if decide (x2<(v1.aN.length:Int))then
   av (idx v1.aN x2) fun e1=>
   av (kG e1) fun x3=>
   av (app bM.aN [x3]) fun x4=>
   sN kG v1 dG (bq (x2+1)) (ah.mk bM.kind bM.dR bM.dS bM.bR x4 bM.keys)
  else
   some bM
def zu(kG:ah→Option ah)(v1:ah):Option ah:=
 av (gH v1.keys) fun x1=>
 sN kG v1 BIG 0 (ah.mk v1.kind v1.dR v1.dS v1.bR [] x1)
def nk:Nat→ah→Option ah
 | 0,_=>none
 | k+1,rP=>zu (nk k) rP
def lX(rP:ah):Option ah:=nk BIG rP
def yM(v1:ah)(key1:Str):Option (ah × Bool):=
 av (iL v1.keys key1) fun i1=>
 if ((v1.kind !=5)||(decide (i1<0)))||(decide ((v1.aN.length:Int)≤i1))then
  some ((ah.mk 0 false 0 ([]:Str) [] []),false)
 else
  av (idx v1.aN i1) fun e1=>
  av (lX e1) fun x1=>
  some (x1,true)
def wI(m1 key1:ah):Option (fq aF ah):=
 av (iD m1 5) fun x1=>
 av (
   if x1 then
    iD key1 3
   else
    some false) fun b1=>
 dM (dN b1 9) (fun e1=>some (.bad e1)) fun _=>
 eD (yM m1 key1.bR) fun x3 ok1=>
 dM (dN ok1 8) (fun e2=>some (.bad e2)) fun _=>
 some (.ok x3)
def uW(a1 i1:ah):Option (fq aF ah):=
 av (iD a1 4) fun x1=>
 av (
   if x1 then
    iD i1 2
   else
    some false) fun b1=>
 if b1 then
  dM (dN ((decide (0≤i1.dS))&&(decide (i1.dS<(a1.aN.length:Int)))) 8) (fun e1=>some (.bad e1)) fun _=>
  av (idx a1.aN i1.dS) fun e2=>
  some (.ok e2)
 else
  dM (wI a1 i1) (fun e3=>some (.bad e3)) fun x3=>
  some (.ok x3)
def zk(name1:Str):Option Int:=
 if name1==([108,101,110]:Str)then
  some 1
 else
  if name1==([108,111,119,101,114]:Str)then
   some 1
  else
   if name1==([117,112,112,101,114]:Str)then
    some 1
   else
    if name1==([115,116,114,105,110,103]:Str)then
     some 1
    else
     if name1==([105,110,116]:Str)then
      some 1
     else
      if name1==([107,101,121,115]:Str)then
       some 1
      else
       if name1==([99,111,110,116,97,105,110,115]:Str)then
        some 2
       else
        if name1==([106,111,105,110]:Str)then
         some 2
        else
         if name1==([115,112,108,105,116]:Str)then
          some 2
         else
          if name1==([115,116,97,114,116,115,119,105,116,104]:Str)then
           some 2
          else
           if name1==([101,110,100,115,119,105,116,104]:Str)then
            some 2
           else
            if name1==([100,101,102,97,117,108,116]:Str)then
             some 2
            else
             some 0
def o_(n1:Int):Option ah:=
 some (ah.mk 2 false n1 ([]:Str) [] [])
def Cv(l1:List ah):Option ah:=
 some (ah.mk 4 false 0 ([]:Str) l1 [])
def yc(l1:List Str):Nat→Int→ah→Option ah
 | 0,_,_=>none
 | dG+1,x1,bM=>
  if decide (x1<(l1.length:Int))then
   av (idx l1 x1) fun s1=>
   av (lF s1) fun x2=>
   av (app bM.aN [x2]) fun x3=>
   yc l1 dG (bq (x1+1)) (ah.mk bM.kind bM.dR bM.dS bM.bR x3 bM.keys)
  else
   some bM
def ze(l1:List Str):Option ah:=
 yc l1 BIG 0 (ah.mk 4 false 0 ([]:Str) [] [])
def o7(b1:Bool):Option Str:=
 if b1 then
  some ([116,114,117,101]:Str)
 else
  some ([102,97,108,115,101]:Str)
def strconv_FormatBool(b1:Bool):Option Str:=
 o7 b1
def lW(s1:Str):Nat→Int→Str→Option Str
 | 0,_,_=>none
 | dG+1,i1,b2=>
  if decide (i1<(s1.length:Int))then
   av (idx s1 i1) fun c1=>
   if ((c1.toNat:Int)==34)||((c1.toNat:Int)==92)then
    av (app b2 [92]) fun b3=>
    av (app b3 [c1]) fun b4=>
    lW s1 dG (bq (i1+1)) b4
   else
    if (c1.toNat:Int)==10 then
     av (app b2 ([92,110]:Str)) fun b5=>
     lW s1 dG (bq (i1+1)) b5
    else
     if (c1.toNat:Int)==9 then
      av (app b2 ([92,116]:Str)) fun b6=>
      lW s1 dG (bq (i1+1)) b6
     else
      if (decide (32≤(c1.toNat:Int)))&&(decide ((c1.toNat:Int)≤126))then
       av (app b2 [c1]) fun b7=>
       lW s1 dG (bq (i1+1)) b7
      else
       av (app b2 ([92,120]:Str)) fun b8=>
       av (idx ([48,49,50,51,52,53,54,55,56,57,97,98,99,100,101,102]:Str) ((c1/16).toNat:Int)) fun x1=>
       av (app b8 [x1]) fun b9=>
       av (idx ([48,49,50,51,52,53,54,55,56,57,97,98,99,100,101,102]:Str) ((c1%16).toNat:Int)) fun x2=>
       av (app b9 [x2]) fun b10=>
       lW s1 dG (bq (i1+1)) b10
  else
   app b2 [34]
def zL(s1:Str):Option Str:=
 av (app [] [34]) fun b1=>
 lW s1 BIG 0 b1
def strings_Join(l1:List Str)(t1:Str):Option Str:=
 if l1.length≤140737488355328∧(lZ l1 t1).length≤140737488355328 then some (lZ l1 t1)else none
def pW(eP:ah→Option Str)(v1:ah):Nat→List Str→Int→Option Str
 | 0,_,_=>none
 | dG+1,nS,i1=>
  if decide (i1<(v1.aN.length:Int))then
   av (idx v1.aN i1) fun e1=>
   if v1.kind==5 then
    av (idx v1.keys i1) fun e2=>
    av (zL e2) fun x4=>
    av (app x4 ([58,32]:Str)) fun x5=>
    av (eP e1) fun x6=>
    av (app x5 x6) fun x7=>
    av (app nS ([x7]:List Str)) fun ajS=>
    pW eP v1 dG ajS (bq (i1+1))
   else
    av (eP e1) fun x8=>
    av (app nS ([x8]:List Str)) fun ajR=>
    pW eP v1 dG ajR (bq (i1+1))
  else
   av (strings_Join nS ([44,32]:Str)) fun s3=>
   if v1.kind==5 then
    av (app ([123]:Str) s3) fun x9=>
    app x9 ([125]:Str)
   else
    av (app ([91]:Str) s3) fun RP=>
    app RP ([93]:Str)
def uz(eP:ah→Option Str)(v1:ah):Nat→List Str→Int→Option Str
 | 0,_,_=>none
 | Ea+1,aek,i2=>
  if decide (i2<(v1.aN.length:Int))then
   av (idx v1.aN i2) fun e3=>
   av (idx v1.keys i2) fun e4=>
   av (zL e4) fun V7=>
   av (app V7 ([58,32]:Str)) fun x14=>
   av (eP e3) fun x15=>
   av (app x14 x15) fun x16=>
   av (app aek ([x16]:List Str)) fun ajQ=>
   uz eP v1 Ea ajQ (bq (i2+1))
  else
   av (strings_Join aek ([44,32]:Str)) fun s5=>
   av (app ([123]:Str) s5) fun x17=>
   app x17 ([125]:Str)
def vV(eP:ah→Option Str)(v1:ah):Option Str:=
 if v1.kind==1 then
  strconv_FormatBool v1.dR
 else
  if v1.kind==2 then
   strconv_Itoa v1.dS
  else
   if v1.kind==3 then
    zL v1.bR
   else
    if v1.kind==4 then
     pW eP v1 BIG [] 0
    else
     if v1.kind==5 then
      uz eP v1 BIG [] 0
     else
      some ([110,117,108,108]:Str)
def vU:Nat→ah→Option Str
 | 0,_=>none
 | k+1,rP=>vV (vU k) rP
def Dx(rP:ah):Option Str:=vU BIG rP
def yL(v1:ah):Option (Str × Int):=
 if (v1.kind==4)||(v1.kind==5)then
  some (([]:Str),9)
 else
  av (kL v1) fun e1=>
  if e1 !=0 then
   some (([]:Str),e1)
  else
   if v1.kind==0 then
    some (([]:Str),0)
   else
    if v1.kind==3 then
     some (v1.bR,0)
    else
     av (Dx v1) fun x1=>
     some (x1,0)
def qp(s1:Str)(lo1 hi1:UInt8)(DR:Int):Nat→Int→Str→Option Str
 | 0,_,_=>none
 | dG+1,i1,b1=>
  if decide (i1<(s1.length:Int))then
   av (idx s1 i1) fun x1=>
   av (
     if decide ((lo1.toNat:Int)≤(x1.toNat:Int))then
      av (idx s1 i1) fun x2=>
      some (decide ((x2.toNat:Int)≤(hi1.toNat:Int)))
     else
      some false) fun b2=>
   if b2 then
    av (idx s1 i1) fun x3=>
    av (app b1 [(Ft.byteOf (bq ((x3.toNat:Int)+DR)))]) fun b3=>
    qp s1 lo1 hi1 DR dG (bq (i1+1)) b3
   else
    av (idx s1 i1) fun x4=>
    av (app b1 [x4]) fun b4=>
    qp s1 lo1 hi1 DR dG (bq (i1+1)) b4
  else
   some b1
def wZ(s1:Str)(lo1 hi1:UInt8)(DR:Int):Option Str:=
 qp s1 lo1 hi1 DR BIG 0 []
def tY(s1:Str):Option (Int × Bool):=
 eD (strconv_Atoi s1) fun n1 QJ=>
 av (
   if QJ.isSome then
    some true
   else
    av (strconv_Itoa n1) fun x1=>
    some (!(x1==s1))) fun b1=>
 if (b1||(decide (n1<(-9007199254740992))))||(decide (9007199254740992<n1))then
  some (0,false)
 else
  some (n1,true)
def Hf(name1:Str)(v1:ah):Option (fq aF ah):=
 if name1==([108,101,110]:Str)then
  av (iD v1 3) fun x1=>
  av (
    if x1 then
     some true
    else
     iD v1 4) fun b1=>
  av (
    if b1 then
     some true
    else
     iD v1 5) fun b2=>
  dM (dN b2 9) (fun e1=>some (.bad e1)) fun _=>
  av (o_ (bq ((v1.bR.length:Int)+(v1.aN.length:Int)))) fun x4=>
  some (.ok x4)
 else
  if name1==([107,101,121,115]:Str)then
   av (iD v1 5) fun x5=>
   dM (dN x5 9) (fun e2=>some (.bad e2)) fun _=>
   av (ze v1.keys) fun x6=>
   some (.ok x6)
  else
   if name1==([115,116,114,105,110,103]:Str)then
    eD (yL v1) fun t1 e3=>
    dM (dN (e3==0) e3) (fun e4=>some (.bad e4)) fun _=>
    av (lF t1) fun x7=>
    some (.ok x7)
   else
    av (iD v1 3) fun x8=>
    dM (dN x8 9) (fun e5=>some (.bad e5)) fun _=>
    if name1==([108,111,119,101,114]:Str)then
     av (wZ v1.bR 65 90 32) fun x9=>
     av (lF x9) fun Kn=>
     some (.ok Kn)
    else
     if name1==([117,112,112,101,114]:Str)then
      av (wZ v1.bR 97 122 (-32)) fun RP=>
      av (lF RP) fun x12=>
      some (.ok x12)
     else
      eD (tY v1.bR) fun n1 ok1=>
      dM (dN ok1 1) (fun e6=>some (.bad e6)) fun _=>
      av (o_ n1) fun V7=>
      some (.ok V7)
def sM(b1:Bool):Option Int:=
 if b1 then
  some 1
 else
  some 0
def bU(wB wz:List ah)(yA:ah→ah→Option Int):Nat→Int→Option Int
 | 0,_=>none
 | dG+1,i1=>
  if decide (i1<(wB.length:Int))then
   av (idx wB i1) fun e1=>
   if decide ((wz.length:Int)≤i1)then
    some 1
   else
    av (idx wz i1) fun e2=>
    av (yA e1 e2) fun c1=>
    if c1 !=0 then
     some c1
    else
     bU wB wz yA dG (bq (i1+1))
  else
   if decide ((wB.length:Int)<(wz.length:Int))then
    some (-1)
   else
    some 0
def bD(wB wz:List ah)(yA:ah→ah→Option Int):Option Int:=
 bU wB wz yA BIG 0
def dJ(wB wz:List Str)(yA:Str→Str→Option Int):Nat→Int→Option Int
 | 0,_=>none
 | dG+1,i1=>
  if decide (i1<(wB.length:Int))then
   av (idx wB i1) fun anh=>
   if decide ((wz.length:Int)≤i1)then
    some 1
   else
    av (idx wz i1) fun ang=>
    av (yA anh ang) fun c1=>
    if c1 !=0 then
     some c1
    else
     dJ wB wz yA dG (bq (i1+1))
  else
   if decide ((wB.length:Int)<(wz.length:Int))then
    some (-1)
   else
    some 0
def cB(wB wz:List Str)(yA:Str→Str→Option Int):Option Int:=
 dJ wB wz yA BIG 0
def vW(jB:ah→ah→Option Int)(a1 b1:ah):Option Int:=
 av (cmp_Compare_int a1.kind b1.kind) fun c1=>
 if c1 !=0 then
  some c1
 else
  if a1.kind==1 then
   av (sM a1.dR) fun x1=>
   av (sM b1.dR) fun x2=>
   cmp_Compare_int x1 x2
  else
   if a1.kind==2 then
    cmp_Compare_int a1.dS b1.dS
   else
    if a1.kind==3 then
     lH a1.bR b1.bR
    else
     if a1.kind==4 then
      bD a1.aN b1.aN jB
     else
      if a1.kind==5 then
       av (cB a1.keys b1.keys iC) fun c2=>
       if c2 !=0 then
        some c2
       else
        bD a1.aN b1.aN jB
      else
       some 0
def iK:Nat→ah→ah→Option Int
 | 0,_,_=>none
 | k+1,RD,RB=>vW (iK k) RD RB
def vH(RD RB:ah):Option Int:=iK BIG RD RB
def lY(a1 b1:ah):Option Bool:=
 av (vH a1 b1) fun x1=>
 some (x1==0)
def oI(a1 b1:ah)(CR:Int):Option Bool:=
 some ((a1.kind==CR)&&(b1.kind==CR))
def strings_Contains(s1 t1:Str):Option Bool:=
 if s1.length<4294967281 then some (kP s1 t1).isSome else none
def nN(a1 b1:ah):Nat→Int→Option (fq aF Bool)
 | 0,_=>none
 | dG+1,x2=>
  if decide (x2<(a1.aN.length:Int))then
   av (idx a1.aN x2) fun e1=>
   av (lY e1 b1) fun x3=>
   if x3 then
    some (.ok true)
   else
    nN a1 b1 dG (bq (x2+1))
  else
   some (.ok false)
def vP(a1 b1:ah):Option (fq aF Bool):=
 av (iD a1 4) fun x1=>
 if x1 then
  nN a1 b1 BIG 0
 else
  av (oI a1 b1 3) fun x4=>
  if x4 then
   av (strings_Contains a1.bR b1.bR) fun x5=>
   some (.ok x5)
  else
   av (iD a1 5) fun x6=>
   av (
     if x6 then
      iD b1 3
     else
      some false) fun b2=>
   dM (dN b2 9) (fun e2=>some (.bad e2)) fun _=>
   eD (yM a1 b1.bR) fun x8 ok1=>
   some (.ok ok1)
def eY(b1:Bool):Option ah:=
 some (ah.mk 1 b1 0 ([]:Str) [] [])
def tZ(a1 b1:ah):Nat→Int→List Str→Int→Option (fq aF ah)
 | 0,_,_,_=>none
 | dG+1,n1,l1,x3=>
  if decide (x3<(a1.aN.length:Int))then
   av (idx a1.aN x3) fun e2=>
   av (iD e2 3) fun x4=>
   dM (dN x4 9) (fun e3=>some (.bad e3)) fun _=>
   av (app l1 ([e2.bR]:List Str)) fun l2=>
   tZ a1 b1 dG (bq (n1+(e2.bR.length:Int))) l2 (bq (x3+1))
  else
   dM (dN (decide ((bq (n1+(bq ((b1.bR.length:Int)*(if 0<(bq ((l1.length:Int)-1))then (bq ((l1.length:Int)-1))else 0)))))≤4096)) 3) (fun e4=>some (.bad e4)) fun _=>
   av (strings_Join l1 b1.bR) fun x5=>
   av (lF x5) fun x6=>
   some (.ok x6)
def Ab(a1 b1:ah):Option (fq aF ah):=
 av (iD a1 4) fun x1=>
 av (
   if x1 then
    iD b1 3
   else
    some false) fun b2=>
 dM (dN b2 9) (fun e1=>some (.bad e1)) fun _=>
 tZ a1 b1 BIG 0 [] 0
def qm(s1 xC:Str):Option Bool:=
 if decide ((xC.length:Int)≤(s1.length:Int))then
  av (sl s1 (bq ((s1.length:Int)-(xC.length:Int))) (s1.length:Int)) fun x1=>
  some (x1==xC)
 else
  some false
def strings_HasSuffix(s1 xC:Str):Option Bool:=
 qm s1 xC
def strings_Split(s1 t1:Str):Option (List Str):=
 if s1.length<4294967281∧t1≠[]then some (mR t1 (s1.length+1) s1)else none
def He(name1:Str)(a1 b1:ah):Option (fq aF ah):=
 if name1==([100,101,102,97,117,108,116]:Str)then
  av (iD a1 0) fun x1=>
  if x1 then
   some (.ok b1)
  else
   some (.ok a1)
 else
  if name1==([99,111,110,116,97,105,110,115]:Str)then
   dM (vP a1 b1) (fun e1=>some (.bad e1)) fun x2=>
   av (eY x2) fun x3=>
   some (.ok x3)
  else
   if name1==([106,111,105,110]:Str)then
    dM (Ab a1 b1) (fun e2=>some (.bad e2)) fun x4=>
    some (.ok x4)
   else
    av (oI a1 b1 3) fun x5=>
    dM (dN x5 9) (fun e3=>some (.bad e3)) fun _=>
    if name1==([115,116,97,114,116,115,119,105,116,104]:Str)then
     av (strings_HasPrefix a1.bR b1.bR) fun x6=>
     av (eY x6) fun x7=>
     some (.ok x7)
    else
     if name1==([101,110,100,115,119,105,116,104]:Str)then
      av (strings_HasSuffix a1.bR b1.bR) fun x8=>
      av (eY x8) fun x9=>
      some (.ok x9)
     else
      dM (dN (!(b1.bR==([]:Str))) 1) (fun e4=>some (.bad e4)) fun _=>
      av (strings_Split a1.bR b1.bR) fun l1=>
      dM (dN (decide ((l1.length:Int)≤1024)) 3) (fun e5=>some (.bad e5)) fun _=>
      av (ze l1) fun Kn=>
      some (.ok Kn)
def tX(v1:ah):Option (fq aF Bool):=
 av (iD v1 1) fun x1=>
 dM (dN x1 9) (fun e1=>some (.bad e1)) fun _=>
 some (.ok v1.dR)
def Cu(op1:Str)(v1:ah):Option (fq aF ah):=
 if op1==([33]:Str)then
  dM (tX v1) (fun e1=>some (.bad e1)) fun x1=>
  av (eY (!x1)) fun x2=>
  some (.ok x2)
 else
  av (iD v1 2) fun x3=>
  dM (dN x3 9) (fun e2=>some (.bad e2)) fun _=>
  av (o_ (bq (0-v1.dS))) fun x4=>
  some (.ok x4)
def mK(a1 b1:ah):Option (fq aF Int):=
 av (oI a1 b1 2) fun x1=>
 av (
   if x1 then
    some true
   else
    oI a1 b1 3) fun b2=>
 dM (dN b2 9) (fun e1=>some (.bad e1)) fun _=>
 av (vH a1 b1) fun x3=>
 some (.ok x3)
def qF(n1:Int):Option (fq aF ah):=
 dM (dN ((decide ((-9007199254740992)≤n1))&&(decide (n1≤9007199254740992))) 11) (fun e1=>some (.bad e1)) fun _=>
 av (o_ n1) fun x1=>
 some (.ok x1)
def Eh(a1 b1:ah):Option (fq aF ah):=
 av (oI a1 b1 2) fun x1=>
 if x1 then
  dM (qF (bq (a1.dS+b1.dS))) (fun e1=>some (.bad e1)) fun x2=>
  some (.ok x2)
 else
  av (oI a1 b1 3) fun x3=>
  if x3 then
   dM (dN (decide ((bq ((a1.bR.length:Int)+(b1.bR.length:Int)))≤4096)) 3) (fun e2=>some (.bad e2)) fun _=>
   av (app a1.bR b1.bR) fun x4=>
   av (lF x4) fun x5=>
   some (.ok x5)
  else
   av (oI a1 b1 4) fun x6=>
   dM (dN x6 9) (fun e3=>some (.bad e3)) fun _=>
   dM (dN (decide ((bq ((a1.aN.length:Int)+(b1.aN.length:Int)))≤1024)) 3) (fun e4=>some (.bad e4)) fun _=>
   av (app [] a1.aN) fun l1=>
   av (app l1 b1.aN) fun x7=>
   av (Cv x7) fun x8=>
   some (.ok x8)
def Gz(n1:Int):Option (BitVec 64):=
 if decide (n1<0)then
  some (-(BitVec.ofInt 64 n1))
 else
  some (BitVec.ofInt 64 n1)
def Bg(a1 b1:Int):Option eZ:=
 av (Gz a1) fun x1=>
 av (Gz b1) fun y1=>
 av (some ((x1 &&& (4294967295:BitVec 64))*(y1 &&& (4294967295:BitVec 64)))) fun Qm=>
 av (some ((x1 >>> 32)*(y1 &&& (4294967295:BitVec 64)))) fun x2=>
 av (some ((x1 &&& (4294967295:BitVec 64))*(y1 >>> 32))) fun x3=>
 av (some ((x2+(Qm >>> 32)) &&& (4294967295:BitVec 64))) fun x4=>
 av (some (((x1 >>> 32)*(y1 >>> 32))+((x2+(Qm >>> 32)) >>> 32))) fun x5=>
 av (some (((x3+x4) <<< 32) ||| (Qm &&& (4294967295:BitVec 64)))) fun x6=>
 some (eZ.mk ([(x5+((x3+x4) >>> 32)),x6]:List (BitVec 64)) ((!((decide (a1<0))==(decide (b1<0))))&&(!decide (([((x5+((x3+x4) >>> 32)).toNat:Int),(x6.toNat:Int)]:List Int)=([0,0]:List Int)))))
def qK(p1:eZ):Option (Int × Bool):=
 if ((p1.half.getD 0 0).toNat:Int) !=0 then
  some (0,false)
 else
  if p1.neg&&(decide (((p1.half.getD 1 0).toNat:Int)≤9223372036854775808))then
   some ((bq ((-(p1.half.getD 1 0)).toNat:Int)),true)
  else
   if (!p1.neg)&&(decide (((p1.half.getD 1 0).toNat:Int)≤9223372036854775807))then
    some ((bq ((p1.half.getD 1 0).toNat:Int)),true)
   else
    some (0,false)
def Vb(ahz:Bool):Option Int:=
 if ahz then
  some (-9223372036854775808)
 else
  some 9223372036854775807
def KX(a1 b1:Int):Option Int:=
 av (Bg a1 b1) fun x1=>
 eD (qK x1) fun n1 ok1=>
 if ok1 then
  some n1
 else
  Vb x1.neg
def oJ(op1:Str)(a1 b1:ah):Option (fq aF ah):=
 av (oI a1 b1 2) fun x1=>
 dM (dN x1 9) (fun e1=>some (.bad e1)) fun _=>
 if op1==([45]:Str)then
  dM (qF (bq (a1.dS-b1.dS))) (fun e2=>some (.bad e2)) fun x2=>
  some (.ok x2)
 else
  if op1==([42]:Str)then
   av (KX a1.dS b1.dS) fun x3=>
   dM (qF x3) (fun e3=>some (.bad e3)) fun x4=>
   some (.ok x4)
  else
   dM (dN (b1.dS !=0) 12) (fun e4=>some (.bad e4)) fun _=>
   if op1==([47]:Str)then
    av (OV (!(b1.dS==0))) fun _=>
    dM (qF (bq ((a1.dS:Int).tdiv b1.dS))) (fun e5=>some (.bad e5)) fun x5=>
    some (.ok x5)
   else
    av (OV (!(b1.dS==0))) fun _=>
    av (o_ ((a1.dS:Int).tmod b1.dS)) fun x6=>
    some (.ok x6)
def qO(bN:Int)(x1:ah):Int:=if (x1.kind==4||x1.kind==5)&&((x1.aN.length:Int)==0)then bq (bN+1)else bN
def gL(aiK bN:Int)(x1:ah):Option (Bool × Int):=
 some (true,if aiK<qO bN x1 then qO bN x1 else aiK)
def xA(v1:ah):Option Int:=
 eD (BX gL 0 v1 1) fun _ s1=>
 some s1
def ko(y1 c1:aD):Option Bool:=
 some (y1.name==c1.name)
def zN(iJ:List aD)(i1:Int):Option Int:=
 av (idx iJ i1) fun e1=>
 if (decide ((e1.name.length:Int)<1))||(decide (64<(e1.name.length:Int)))then
  some 1
 else
  av (kL e1.value) fun e2=>
  if e2 !=0 then
   some e2
  else
   av (xA e1.value) fun x1=>
   if decide (16≤x1)then
    some 13
   else
    av (sl iJ 0 i1) fun x2=>
    av (dB x2 (fun z0=>ko z0 e1)) fun x3=>
    if x3 then
     some 7
    else
     some 0
def F4(a1 b1:aD):Option Int:=
 iC a1.name b1.name
def uD(rW:List aD):Nat→Int→ah→Option (ah × Int)
 | 0,_,_=>none
 | Ea+1,x1,bM=>
  if decide (x1<(rW.length:Int))then
   av (idx rW x1) fun e2=>
   av (app bM.keys ([e2.name]:List Str)) fun x2=>
   av (lX e2.value) fun x3=>
   av (app bM.aN [x3]) fun x4=>
   uD rW Ea (bq (x1+1)) (ah.mk bM.kind bM.dR bM.dS bM.bR x4 x2)
  else
   some (bM,0)
def uE(iJ:List aD):Nat→Int→Option (ah × Int)
 | 0,_=>none
 | dG+1,i1=>
  if decide (i1<(iJ.length:Int))then
   av (zN iJ i1) fun e1=>
   if e1 !=0 then
    some ((ah.mk 0 false 0 ([]:Str) [] []),e1)
   else
    uE iJ dG (bq (i1+1))
  else
   av (cO iJ) fun Oy=>
   av (Tj (fun x=>x.name) Oy) fun rW=>
   uD rW BIG 0 (ah.mk 5 false 0 ([]:Str) [] [])
def BK(iJ:List aD):Option (ah × Int):=
 if decide (1024<(iJ.length:Int))then
  some ((ah.mk 0 false 0 ([]:Str) [] []),3)
 else
  uE iJ BIG 0
def su(aZ bW:List aD→au→Option (fq aF ah))(bV:List aD→List au→Option (fq aF (List ah)))(bK bI:List aD→au→Option (fq aF ah))(s1:List aD)(e1:au):Option (fq aF ah):=
 if e1.kind==1 then
  some (.ok e1.value)
 else
  if e1.kind==2 then
   dM (qZ s1 e1.name) (fun e2=>some (.bad e2)) fun x1=>
   some (.ok x1)
  else
   if e1.kind==3 then
    av (idx e1.args 0) fun e3=>
    dM (aZ s1 e3) (fun e4=>some (.bad e4)) fun x2=>
    av (lF e1.name) fun x3=>
    dM (wI x2 x3) (fun e5=>some (.bad e5)) fun x4=>
    some (.ok x4)
   else
    if e1.kind==4 then
     av (idx e1.args 0) fun e6=>
     dM (aZ s1 e6) (fun e7=>some (.bad e7)) fun x5=>
     av (idx e1.args 1) fun e8=>
     dM (aZ s1 e8) (fun e9=>some (.bad e9)) fun x6=>
     dM (uW x5 x6) (fun e10=>some (.bad e10)) fun x7=>
     some (.ok x7)
    else
     if e1.kind==5 then
      dM (bW s1 e1) (fun e11=>some (.bad e11)) fun x8=>
      some (.ok x8)
     else
      if e1.kind==6 then
       av (idx e1.args 0) fun e12=>
       dM (aZ s1 e12) (fun e13=>some (.bad e13)) fun x9=>
       dM (Cu e1.name x9) (fun e14=>some (.bad e14)) fun Kn=>
       some (.ok Kn)
      else
       if e1.kind==7 then
        dM (bK s1 e1) (fun e15=>some (.bad e15)) fun RP=>
        some (.ok RP)
       else
        if e1.kind==8 then
         av (idx e1.args 0) fun e16=>
         dM (aZ s1 e16) (fun e17=>some (.bad e17)) fun x12=>
         dM (tX x12) (fun e18=>some (.bad e18)) fun V7=>
         if V7 then
          av (idx e1.args 1) fun e19=>
          dM (aZ s1 e19) (fun e20=>some (.bad e20)) fun x14=>
          some (.ok x14)
         else
          av (idx e1.args 2) fun e21=>
          dM (aZ s1 e21) (fun e22=>some (.bad e22)) fun x15=>
          some (.ok x15)
        else
         if e1.kind==9 then
          dM (bV s1 e1.args) (fun e23=>some (.bad e23)) fun x16=>
          av (Cv x16) fun x17=>
          av (kL x17) fun x18=>
          dM (dN (x18==0) 13) (fun e24=>some (.bad e24)) fun _=>
          some (.ok x17)
         else
          dM (bI s1 e1) (fun e25=>some (.bad e25)) fun x19=>
          some (.ok x19)
def o9(aZ bW:List aD→au→Option (fq aF ah))(bV:List aD→List au→Option (fq aF (List ah)))(bK bI:List aD→au→Option (fq aF ah))(s1:List aD)(e1:au):Option (fq aF ah):=
 av (zk e1.name) fun n1=>
 dM (dN (decide (0<n1)) 10) (fun e2=>some (.bad e2)) fun _=>
 dM (dN ((e1.args.length:Int)==n1) 1) (fun e3=>some (.bad e3)) fun _=>
 dM (bV s1 e1.args) (fun e4=>some (.bad e4)) fun args1=>
 if n1==1 then
  av (idx args1 0) fun e5=>
  dM (Hf e1.name e5) (fun e6=>some (.bad e6)) fun x1=>
  some (.ok x1)
 else
  av (idx args1 0) fun e7=>
  av (idx args1 1) fun e8=>
  dM (He e1.name e7 e8) (fun e9=>some (.bad e9)) fun x2=>
  some (.ok x2)
def mh(aZ:List aD→au→Option (fq aF ah))(s1:List aD)(l1:List au):Nat→List ah→Int→Option (fq aF (List ah))
 | 0,_,_=>none
 | dG+1,bM,x1=>
  if decide (x1<(l1.length:Int))then
   av (idx l1 x1) fun e1=>
   dM (aZ s1 e1) (fun e2=>some (.bad e2)) fun x2=>
   av (app bM [x2]) fun xM=>
   mh aZ s1 l1 dG xM (bq (x1+1))
  else
   some (.ok bM)
def zh(aZ bW:List aD→au→Option (fq aF ah))(bV:List aD→List au→Option (fq aF (List ah)))(bK bI:List aD→au→Option (fq aF ah))(s1:List aD)(l1:List au):Option (fq aF (List ah)):=
 mh aZ s1 l1 BIG [] 0
def mP(aZ bW:List aD→au→Option (fq aF ah))(bV:List aD→List au→Option (fq aF (List ah)))(bK bI:List aD→au→Option (fq aF ah))(s1:List aD)(e1:au):Option (fq aF ah):=
 av (idx e1.args 0) fun e2=>
 dM (aZ s1 e2) (fun e3=>some (.bad e3)) fun x1=>
 if (e1.name==([38,38]:Str))||(e1.name==([124,124]:Str))then
  dM (tX x1) (fun e4=>some (.bad e4)) fun x2=>
  if x2==(e1.name==([124,124]:Str))then
   some (.ok x1)
  else
   av (idx e1.args 1) fun e5=>
   dM (aZ s1 e5) (fun e6=>some (.bad e6)) fun x3=>
   dM (tX x3) (fun e7=>some (.bad e7)) fun x4=>
   av (eY x4) fun x5=>
   some (.ok x5)
 else
  av (idx e1.args 1) fun e8=>
  dM (aZ s1 e8) (fun e9=>some (.bad e9)) fun x6=>
  if e1.name==([61,61]:Str)then
   av (lY x1 x6) fun x7=>
   av (eY x7) fun x8=>
   some (.ok x8)
  else
   if e1.name==([33,61]:Str)then
    av (lY x1 x6) fun x9=>
    av (eY (!x9)) fun Kn=>
    some (.ok Kn)
   else
    if e1.name==([60]:Str)then
     dM (mK x1 x6) (fun e10=>some (.bad e10)) fun RP=>
     av (eY (decide (RP<0))) fun x12=>
     some (.ok x12)
    else
     if e1.name==([60,61]:Str)then
      dM (mK x1 x6) (fun e11=>some (.bad e11)) fun V7=>
      av (eY (decide (V7≤0))) fun x14=>
      some (.ok x14)
     else
      if e1.name==([62]:Str)then
       dM (mK x1 x6) (fun e12=>some (.bad e12)) fun x15=>
       av (eY (decide (0<x15))) fun x16=>
       some (.ok x16)
      else
       if e1.name==([62,61]:Str)then
        dM (mK x1 x6) (fun e13=>some (.bad e13)) fun x17=>
        av (eY (decide (0≤x17))) fun x18=>
        some (.ok x18)
       else
        if e1.name==([43]:Str)then
         dM (Eh x1 x6) (fun e14=>some (.bad e14)) fun x19=>
         some (.ok x19)
        else
         dM (oJ e1.name x1 x6) (fun e15=>some (.bad e15)) fun x20=>
         some (.ok x20)
def kY(e1:au)(x1:List ah):Nat→List aD→Int→Option (fq aF ah)
 | 0,_,_=>none
 | dG+1,iJ,i1=>
  if decide (i1<(x1.length:Int))then
   av (idx x1 i1) fun e3=>
   av (idx e1.keys i1) fun e4=>
   av (app iJ [(aD.mk e4 e3)]) fun O_=>
   kY e1 x1 dG O_ (bq (i1+1))
  else
   eD (BK iJ) fun x2 uf=>
   dM (dN (uf==0) uf) (fun e5=>some (.bad e5)) fun _=>
   some (.ok x2)
def l6(aZ bW:List aD→au→Option (fq aF ah))(bV:List aD→List au→Option (fq aF (List ah)))(bK bI:List aD→au→Option (fq aF ah))(s1:List aD)(e1:au):Option (fq aF ah):=
 dM (bV s1 e1.args) (fun e2=>some (.bad e2)) fun x1=>
 kY e1 x1 BIG [] 0
mutual
def bZ:Nat→List aD→au→Option (fq aF ah)
 | 0,_,_=>none
 | k+1,qB,oG=>su (bZ k) (eB k) (eT k) (dL k) (dw k) qB oG
def eB:Nat→List aD→au→Option (fq aF ah)
 | 0,_,_=>none
 | k+1,qB,oG=>o9 (bZ k) (eB k) (eT k) (dL k) (dw k) qB oG
def eT:Nat→List aD→List au→Option (fq aF (List ah))
 | 0,_,_=>none
 | k+1,qB,ul1=>zh (bZ k) (eB k) (eT k) (dL k) (dw k) qB ul1
def dL:Nat→List aD→au→Option (fq aF ah)
 | 0,_,_=>none
 | k+1,qB,oG=>mP (bZ k) (eB k) (eT k) (dL k) (dw k) qB oG
def dw:Nat→List aD→au→Option (fq aF ah)
 | 0,_,_=>none
 | k+1,qB,oG=>l6 (bZ k) (eB k) (eT k) (dL k) (dw k) qB oG
end
def Am(qB:List aD)(oG:au):Option (fq aF ah):=bZ BIG qB oG
def Ol(qB:List aD)(oG:au):Option (fq aF ah):=eB BIG qB oG
def QH(qB:List aD)(ul1:List au):Option (fq aF (List ah)):=eT BIG qB ul1
def Lj(qB:List aD)(oG:au):Option (fq aF ah):=dL BIG qB oG
def J4(qB:List aD)(oG:au):Option (fq aF ah):=dw BIG qB oG
def yg(s1:List aD)(e1:au):Option (ah × Int):=
 dM (Am s1 e1) (fun f1=>some ((ah.mk 0 false 0 ([]:Str) [] []),f1.code)) fun v1=>
 some (v1,0)
def vQ(lT:ah→Option ah)(v1:ah):Nat→Int→ah→Option ah
 | 0,_,_=>none
 | dG+1,x1,bM=>
  if decide (x1<(v1.aN.length:Int))then
   av (idx v1.aN x1) fun e1=>
   av (lT e1) fun x2=>
   av (app bM.aN [x2]) fun x3=>
   vQ lT v1 dG (bq (x1+1)) (ah.mk bM.kind bM.dR bM.dS bM.bR x3 bM.keys)
  else
   av (app bM.keys v1.keys) fun x4=>
   some (ah.mk bM.kind bM.dR bM.dS bM.bR bM.aN x4)
def Bu(lT:ah→Option ah)(v1:ah):Option ah:=
 vQ lT v1 BIG 0 (ah.mk v1.kind v1.dR v1.dS v1.bR [] [])
def pq:Nat→ah→Option ah
 | 0,_=>none
 | k+1,rP=>Bu (pq k) rP
def wJ(rP:ah):Option ah:=pq BIG rP
def Ei(e1:au)(jD:List aD):Option (ah × Int):=
 eD (Dm e1 jD) fun s1 f1=>
 if f1 !=0 then
  some ((ah.mk 0 false 0 ([]:Str) [] []),f1)
 else
  eD (yg s1 e1) fun x1 f2=>
  av (wJ x1) fun x2=>
  some (x2,f2)
def qV(p1:aU)(jD:List aD):Option (Str × Int):=
 if !p1.is_ then
  some (p1.text,0)
 else
  eD (Ei p1.expr jD) fun x1 uf=>
  if uf !=0 then
   some (([]:Str),uf)
  else
   yL x1
def nM(jD:List aD)(ps1:List aU):Nat→Int→Str→Option (Str × Int)
 | 0,_,_=>none
 | dG+1,x2,b1=>
  if decide (x2<(ps1.length:Int))then
   av (idx ps1 x2) fun e1=>
   eD (qV e1 jD) fun t1 afm=>
   if afm !=0 then
    some (([]:Str),afm)
   else
    av (app b1 t1) fun b2=>
    nM jD ps1 dG (bq (x2+1)) b2
  else
   if decide (4096<(b1.length:Int))then
    some (([]:Str),3)
   else
    some (b1,0)
def lQ(s1:Str)(jD:List aD):Option (Str × Int):=
 mD (jy s1) fun ps1 x1 uf=>
 if uf !=0 then
  some (([]:Str),uf)
 else
  av (Cw jD) fun Lv=>
  if Lv !=0 then
   some (([]:Str),Lv)
  else
   nM jD ps1 BIG 0 []
def jI(s1:Str)(jD:List aD):Option (Str × Int):=
 eD (lQ s1 jD) fun bM e1=>
 if e1 !=0 then
  some (([]:Str),e1)
 else
  if bM==([]:Str)then
   some (([]:Str),1)
  else
   if decide (512<(bM.length:Int))then
    some (([]:Str),3)
   else
    some (bM,0)
def gT(c1:aQ)(iJ:List aD)(qo:List aP):Option (Str × Int):=
 eD (jZ c1 iJ qo) fun jD e1=>
 if e1 !=0 then
  some (([]:Str),e1)
 else
  jI c1.key jD
def rF:Option Bool:=
 eD (gT (aQ.mk ([103,111,45,36,123,102,105,108,101,115,125]:Str) [] []) [] []) fun a1 e1=>
 eD (gT (aQ.mk ([36,123,111,115,125,47,49]:Str) [] []) [(aD.mk ([111,115]:Str) (ah.mk 3 false 0 ([108,105,110,117,120]:Str) [] []))] []) fun b1 f1=>
 eD (gT (aQ.mk ([36,123,97,114,99,104,125]:Str) [] []) [] []) fun x1 g1=>
 av (zl ([102,105,108,101,115]:Str) []) fun x2=>
 av (pz x2) fun x3=>
 av (app ([103,111,45]:Str) x3) fun x4=>
 some (((((a1==x4)&&(e1==0))&&(b1==([108,105,110,117,120,47,49]:Str)))&&(f1==0))&&(g1 !=0))
def j4(c1:aQ)(jD:List aD):Nat→List Str→Int→Option (List Str × Int)
 | 0,_,_=>none
 | dG+1,bM,x1=>
  if decide (x1<(c1.restore.length:Int))then
   av (idx c1.restore x1) fun s1=>
   eD (jI s1 jD) fun p1 e2=>
   if e2 !=0 then
    some ([],e2)
   else
    av (app bM ([p1]:List Str)) fun xM=>
    j4 c1 jD dG xM (bq (x1+1))
  else
   some (bM,0)
def mo(c1:aQ)(iJ:List aD)(qo:List aP):Option (List Str × Int):=
 eD (jZ c1 iJ qo) fun jD e1=>
 if e1 !=0 then
  some ([],e1)
 else
  j4 c1 jD BIG [] 0
def wY(a1 b1:List Str):Nat→Int→Option Bool
 | 0,_=>none
 | dG+1,i1=>
  if decide (i1<(a1.length:Int))then
   av (idx a1 i1) fun e1=>
   av (idx b1 i1) fun e2=>
   if !(e1==e2)then
    some false
   else
    wY a1 b1 dG (bq (i1+1))
  else
   some true
def D_(a1 b1:List Str):Option Bool:=
 if (a1.length:Int) !=(b1.length:Int)then
  some false
 else
  wY a1 b1 BIG 0
def jX(u1:aO)(Gw:Bool):Nat→Int→Option Bool
 | 0,_=>none
 | Ea+1,i2=>
  if decide (i2<(u1.vars.length:Int))then
   av (idx u1.vars i2) fun e1=>
   if e1.name==([102,105,108,101,115]:Str)then
    rF
   else
    jX u1 Gw Ea (bq (i2+1))
  else
   eD (gT u1.spec [] u1.files) fun c1 hx1=>
   if Gw&&((!(c1==u1.spec.key))||(hx1 !=0))then
    some false
   else
    eD (gT u1.spec u1.vars u1.files) fun a1 e2=>
    eD (gT (aQ.mk ([107,45,36,123,102,105,108,101,115,125]:Str) [] u1.spec.files) [] u1.files) fun b3 f1=>
    eD (mo (aQ.mk ([120]:Str) ([u1.spec.key]:List Str) u1.spec.files) u1.vars u1.files) fun l1 g1=>
    av (nI u1.files u1.spec.files) fun x6=>
    av (pz x6) fun x7=>
    av (app ([107,45]:Str) x7) fun x8=>
    av (
      if ((b3==x8)&&(f1==0))&&(g1==e2)then
       if e2 !=0 then
        some true
       else
        D_ l1 ([a1]:List Str)
      else
       some false) fun b4=>
    if b4 then
     rF
    else
     some false
def jY(u1:aO):Nat→Bool→Int→Option Bool
 | 0,_,_=>none
 | dG+1,Gw,i1=>
  if decide (i1<(u1.spec.key.length:Int))then
   av (
     if Gw then
      av (idx u1.spec.key i1) fun x4=>
      some ((x4.toNat:Int) !=36)
     else
      some false) fun b2=>
   jY u1 dG b2 (bq (i1+1))
  else
   jX u1 Gw BIG 0
def oW(u1:aO):Option Bool:=
 av (Lb u1) fun x1=>
 av (
   if !x1 then
    some true
   else
    av (gQ u1.spec) fun x2=>
    some (x2 !=0)) fun b1=>
 if b1 then
  rF
 else
  jY u1 BIG true 0
end Go.Ft
