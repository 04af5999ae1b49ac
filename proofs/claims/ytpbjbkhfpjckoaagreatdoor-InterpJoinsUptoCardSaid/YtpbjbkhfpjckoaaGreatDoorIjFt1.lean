/- Proved here: nothing: the functional texts of the functions that the statements reach, as our program wrote them. -/
import Derived.Test.YtpbjbkhfpjckoaaGreatDoorIjWords
set_option linter.unusedVariables false
set_option linter.unusedSimpArgs false
set_option linter.defProp false
set_option linter.unusedSectionVars false
namespace Go.Ft
open Go
structure aG where
 kind:Int
 text:Str
 at_:Int
 deriving DecidableEq
structure au where
 ts:List aG
 at_:Int
 deriving DecidableEq
structure ay where
 at_:Int
 code:Int
 deriving DecidableEq
structure ah where
 kind:Int
 dR:Bool
 dA:Int
 bR:Str
 aN:List ah
 keys:List Str
structure ak where
 kind:Int
 name:Str
 value:ah
 args:List ak
 keys:List Str
structure aY where
 text:Str
 Z0:Bool
 expr:ak
structure aB where
 name:Str
 value:ah
structure aF where
 code:Int
 deriving DecidableEq
structure jo where
 half:List (BitVec 64)
 neg:Bool
 deriving DecidableEq
structure aI where
 kind:Int
 elem:List aI
structure dS where
 name:Str
 Hr:aI
structure ahe where
 x:Int
 y:Int
 signed:Bool
 code:UInt8
 deriving DecidableEq
structure Dt where
 x:Int
 y:Int
 signed:Bool
 code:UInt8
 deriving DecidableEq
structure ahd where
 msg:Str
 addr:BitVec 64
 deriving DecidableEq
structure vD where
 msg:Str
 addr:BitVec 64
 deriving DecidableEq
structure ahc where
 kind:Int
 dR:Bool
 dA:Int
 bR:Str
 aN:List ah
 keys:List Str
structure ahb where
 kind:Int
 name:Str
 value:ah
 args:List ak
 keys:List Str
structure aha where
 text:Str
 Z0:Bool
 expr:ak
structure ag_ where
 name:Str
 value:ah
structure ag9 where
 kind:Int
 elem:List aI
structure ag8 where
 name:Str
 Hr:aI
structure ag7 where
 kind:Int
 text:Str
 at_:Int
 deriving DecidableEq
structure ag6 where
 ts:List aG
 at_:Int
 deriving DecidableEq
structure ag5 where
 at_:Int
 code:Int
 deriving DecidableEq
structure ag4 where
 code:Int
 deriving DecidableEq
structure ag3 where
 lo:UInt8
 hi:UInt8
 deriving DecidableEq
structure GH where
 lo:UInt8
 hi:UInt8
 deriving DecidableEq
structure ag2 where
 neg:Bool
 hi:BitVec 64
 lo:BitVec 64
 deriving DecidableEq
structure nJ where
 neg:Bool
 hi:BitVec 64
 lo:BitVec 64
 deriving DecidableEq
structure anJ where
 half:List (BitVec 64)
 neg:Bool
 deriving DecidableEq
structure anI where
 func:Str
 num:Str
 err:Option Nat
structure aen where
 func:Str
 num:Str
 err:Option Nat
structure ag1 where
 s:Str
 deriving DecidableEq
structure Eh where
 s:Str
 deriving DecidableEq
def aG.bulk(x:aG):Nat:=1+(x.text.length+1)+1+1
def au.bulk(x:au):Nat:=((List.map (fun z:aG=>(aG.bulk z)) x.ts).sum+1)+1+1
def ay.bulk(x:ay):Nat:=1+1+1
mutual
def ah.bulk:ah→Nat
 | ⟨a0,a1,a2,a3,a4,a5⟩=>1+1+1+(a3.length+1)+(ah.lM a4+1)+((List.map (fun z:Str=>(z.length+1)) a5).sum+1)+1
def ah.lM:List ah→Nat
 | []=>0
 | x::xs=>ah.bulk x+ah.lM xs
end
theorem ah.nW:∀l:List ah,ah.lM l=(l.map ah.bulk).sum
 | []=>rfl
 | x::l=>by simp only[ah.lM,aot,aoJ,ah.nW l]
theorem ah.nG(x:ah):ah.bulk x=1+1+1+(x.bR.length+1)+(ah.lM x.aN+1)+((List.map (fun z:Str=>(z.length+1)) x.keys).sum+1)+1:=by cases x;rfl
mutual
def ak.bulk:ak→Nat
 | ⟨a0,a1,a2,a3,a4⟩=>1+(a1.length+1)+(ah.bulk a2)+(ak.lM a3+1)+((List.map (fun z:Str=>(z.length+1)) a4).sum+1)+1
def ak.lM:List ak→Nat
 | []=>0
 | x::xs=>ak.bulk x+ak.lM xs
end
theorem ak.nW:∀l:List ak,ak.lM l=(l.map ak.bulk).sum
 | []=>rfl
 | x::l=>by simp only[ak.lM,aot,aoJ,ak.nW l]
theorem ak.nG(x:ak):ak.bulk x=1+(x.name.length+1)+(ah.bulk x.value)+(ak.lM x.args+1)+((List.map (fun z:Str=>(z.length+1)) x.keys).sum+1)+1:=by cases x;rfl
def aY.bulk(x:aY):Nat:=(x.text.length+1)+1+(ak.bulk x.expr)+1
def aB.bulk(x:aB):Nat:=(x.name.length+1)+(ah.bulk x.value)+1
def aF.bulk(x:aF):Nat:=1+1
mutual
def aI.bulk:aI→Nat
 | ⟨a0,a1⟩=>1+(aI.lM a1+1)+1
def aI.lM:List aI→Nat
 | []=>0
 | x::xs=>aI.bulk x+aI.lM xs
end
theorem aI.nW:∀l:List aI,aI.lM l=(l.map aI.bulk).sum
 | []=>rfl
 | x::l=>by simp only[aI.lM,aot,aoJ,aI.nW l]
theorem aI.nG(x:aI):aI.bulk x=1+(aI.lM x.elem+1)+1:=by cases x;rfl
def dS.bulk(x:dS):Nat:=(x.name.length+1)+(aI.bulk x.Hr)+1
def ahe.bulk(x:ahe):Nat:=1+1+1+1+1
def Dt.bulk(x:Dt):Nat:=1+1+1+1+1
def ahd.bulk(x:ahd):Nat:=(x.msg.length+1)+1+1
def vD.bulk(x:vD):Nat:=(x.msg.length+1)+1+1
def ahc.bulk(x:ahc):Nat:=1+1+1+(x.bR.length+1)+(ah.lM x.aN+1)+((List.map (fun z:Str=>(z.length+1)) x.keys).sum+1)+1
def ahb.bulk(x:ahb):Nat:=1+(x.name.length+1)+(ah.bulk x.value)+(ak.lM x.args+1)+((List.map (fun z:Str=>(z.length+1)) x.keys).sum+1)+1
def aha.bulk(x:aha):Nat:=(x.text.length+1)+1+(ak.bulk x.expr)+1
def ag_.bulk(x:ag_):Nat:=(x.name.length+1)+(ah.bulk x.value)+1
def ag9.bulk(x:ag9):Nat:=1+(aI.lM x.elem+1)+1
def ag8.bulk(x:ag8):Nat:=(x.name.length+1)+(aI.bulk x.Hr)+1
def ag7.bulk(x:ag7):Nat:=1+(x.text.length+1)+1+1
def ag6.bulk(x:ag6):Nat:=((List.map (fun z:aG=>(aG.bulk z)) x.ts).sum+1)+1+1
def ag5.bulk(x:ag5):Nat:=1+1+1
def ag4.bulk(x:ag4):Nat:=1+1
def ag3.bulk(x:ag3):Nat:=1+1+1
def GH.bulk(x:GH):Nat:=1+1+1
def ag2.bulk(x:ag2):Nat:=1+1+1+1
def nJ.bulk(x:nJ):Nat:=1+1+1+1
def ag1.bulk(x:ag1):Nat:=(x.s.length+1)+1
def Eh.bulk(x:Eh):Nat:=(x.s.length+1)+1
def Mf:Option Str:=
 some ([36,123]:List UInt8)
def nA(s1 xV:Str):Option Bool:=
 if decide ((xV.length:Int)≤(s1.length:Int))then
  av (sl s1 0 (xV.length:Int)) fun x1=>
  some (x1==xV)
 else
  some false
def strings_HasPrefix(s1 xV:Str):Option Bool:=
 nA s1 xV
def gF(s1:Str):Nat→Int→Option Int
 | 0,_=>none
 | dL+1,i1=>
  if decide (i1<(s1.length:Int))then
   av (idx s1 i1) fun x1=>
   if (x1.toNat:Int)==92 then
    gF s1 dL (bV ((bV (i1+1))+1))
   else
    if (x1.toNat:Int)==34 then
     some (bV (i1+1))
    else
     gF s1 dL (bV (i1+1))
  else
   some (s1.length:Int)
def sK(s1:Str)(jd:Int):Option Int:=
 gF s1 BIG (bV (jd+1))
def dU(s1:Str):Nat→Int→Int→Option Int
 | 0,_,_=>none
 | dL+1,at2,kL=>
  if decide (at2<(s1.length:Int))then
   av (idx s1 at2) fun x1=>
   if (x1.toNat:Int)==34 then
    av (sK s1 at2) fun at3=>
    dU s1 dL at3 kL
   else
    if (x1.toNat:Int)==123 then
     dU s1 dL (bV (at2+1)) (bV (kL+1))
    else
     if (x1.toNat:Int)==125 then
      if kL==0 then
       some at2
      else
       dU s1 dL (bV (at2+1)) (bV (kL-1))
     else
      dU s1 dL (bV (at2+1)) kL
  else
   some (-1)
def qN(s1:Str)(jd:Int):Option Int:=
 dU s1 BIG jd 0
def yC(o9:Int):Option Bool:=
 some ((o9==32)||(o9==9))
def qK(s1:Str)(I5:UInt8→Option Bool):Nat→Int→Option Int
 | 0,_=>none
 | dL+1,at2=>
  av (
    if decide (at2<(s1.length:Int))then
     av (idx s1 at2) fun x1=>
     I5 x1
    else
     some false) fun b1=>
  if b1 then
   qK s1 I5 dL (bV (at2+1))
  else
   some at2
def xC(s1:Str)(jd:Int)(I5:UInt8→Option Bool):Option Int:=
 qK s1 I5 BIG jd
def ug(c1:UInt8):Option Bool:=
 some ((c1.toNat:Int) !=10)
def rM(c1:UInt8):Option Bool:=
 some ((((decide (97≤(c1.toNat:Int)))&&(decide ((c1.toNat:Int)≤122)))||((decide (65≤(c1.toNat:Int)))&&(decide ((c1.toNat:Int)≤90))))||((c1.toNat:Int)==95))
def qZ(c1:UInt8):Option Bool:=
 some ((decide (48≤(c1.toNat:Int)))&&(decide ((c1.toNat:Int)≤57)))
def uY(c1:UInt8):Option Bool:=
 av (rM c1) fun x1=>
 if x1 then
  some true
 else
  qZ c1
def CS(gB:Str)(jd:Int):Option (aG × Int × Int):=
 av (xC gB jd uY) fun vH=>
 if decide (64<(bV (vH-jd)))then
  some ((aG.mk 0 ([]:Str) 0),0,3)
 else
  av (sl gB jd vH) fun x1=>
  some ((aG.mk 1 x1 jd),vH,0)
def qL(zT:Str):Nat→Int→Int→Option Bool
 | 0,_,_=>none
 | dL+1,n1,i1=>
  if (decide (i1<(zT.length:Int)))&&(decide (n1≤9007199254740992))then
   av (idx zT i1) fun x1=>
   qL zT dL (bV ((bV (10*n1))+((x1-48).toNat:Int))) (bV (i1+1))
  else
   some (decide (9007199254740992<n1))
def DV(zT:Str):Option Bool:=
 qL zT BIG 0 0
def yB(gB:Str)(jd:Int):Option (aG × Int × Int):=
 av (xC gB jd qZ) fun vH=>
 av (sl gB jd vH) fun text1=>
 av (
   if decide (1<(text1.length:Int))then
    av (idx text1 0) fun x1=>
    some ((x1.toNat:Int)==48)
   else
    some false) fun b1=>
 av (
   if b1 then
    some true
   else
    if decide (vH<(gB.length:Int))then
     av (idx gB vH) fun x2=>
     rM x2
    else
     some false) fun b2=>
 if b2 then
  some ((aG.mk 0 ([]:Str) 0),0,5)
 else
  av (DV text1) fun x4=>
  if x4 then
   some ((aG.mk 0 ([]:Str) 0),0,2)
  else
   some ((aG.mk 2 text1 jd),vH,0)
def uZ(c1:UInt8):Option Int:=
 av (qZ c1) fun x1=>
 if x1 then
  some ((c1-48).toNat:Int)
 else
  if (decide (97≤(c1.toNat:Int)))&&(decide ((c1.toNat:Int)≤102))then
   some (bV (((c1-97).toNat:Int)+10))
  else
   if (decide (65≤(c1.toNat:Int)))&&(decide ((c1.toNat:Int)≤70))then
    some (bV (((c1-65).toNat:Int)+10))
   else
    some (-1)
def vW(gB:Str)(jd:Int):Option (UInt8 × Int):=
 if decide ((gB.length:Int)≤(bV (jd+1)))then
  some (0,0)
 else
  av (idx gB (bV (jd+1))) fun c1=>
  if (c1.toNat:Int)==34 then
   some (c1,2)
  else
   if (c1.toNat:Int)==92 then
    some (c1,2)
   else
    if (c1.toNat:Int)==110 then
     some (10,2)
    else
     if (c1.toNat:Int)==116 then
      some (9,2)
     else
      if (c1.toNat:Int)==120 then
       av (
         if decide ((bV (jd+3))<(gB.length:Int))then
          av (idx gB (bV (jd+2))) fun x1=>
          av (uZ x1) fun x2=>
          some (decide (0≤x2))
         else
          some false) fun b1=>
       av (
         if b1 then
          av (idx gB (bV (jd+3))) fun x3=>
          av (uZ x3) fun x4=>
          some (decide (0≤x4))
         else
          some false) fun b2=>
       if b2 then
        av (idx gB (bV (jd+2))) fun x5=>
        av (uZ x5) fun x6=>
        av (idx gB (bV (jd+3))) fun x7=>
        av (uZ x7) fun x8=>
        some ((Ft.byteOf (bV ((bV (16*x6))+x8))),4)
       else
        some (0,0)
      else
       some (0,0)
def Aj(gB:Str)(jd:Int):Option Bool:=
 av (sl gB (bV (jd+1)) (gB.length:Int)) fun Hy=>
 if (Hy==([]:Str))||(Hy==([120]:Str))then
  some true
 else
  av (
    if (Hy.length:Int)==2 then
     av (idx Hy 0) fun x1=>
     some ((x1.toNat:Int)==120)
    else
     some false) fun b2=>
  if b2 then
   av (idx Hy 1) fun x2=>
   av (uZ x2) fun x3=>
   some (decide (0≤x3))
  else
   some false
def qo(gB:Str)(jd:Int):Nat→Int→Str→Option (aG × Int × Int)
 | 0,_,_=>none
 | dL+1,i1,b1=>
  if decide (i1<(gB.length:Int))then
   av (idx gB i1) fun c1=>
   if (c1.toNat:Int)==34 then
    if decide (4096<(b1.length:Int))then
     some ((aG.mk 0 ([]:Str) 0),0,3)
    else
     some ((aG.mk 3 b1 jd),(bV (i1+1)),0)
   else
    if decide ((c1.toNat:Int)<32)then
     some ((aG.mk 0 ([]:Str) 0),0,5)
    else
     if (c1.toNat:Int)==92 then
      fI (vW gB i1) fun x1 n1=>
      av (
        if n1==0 then
         Aj gB i1
        else
         some false) fun b2=>
      if b2 then
       some ((aG.mk 0 ([]:Str) 0),0,4)
      else
       if n1==0 then
        some ((aG.mk 0 ([]:Str) 0),0,5)
       else
        av (app b1 [x1]) fun b3=>
        qo gB jd dL (bV (i1+n1)) b3
     else
      av (app b1 [c1]) fun b4=>
      qo gB jd dL (bV (i1+1)) b4
  else
   some ((aG.mk 0 ([]:Str) 0),0,4)
def CR(gB:Str)(jd:Int):Option (aG × Int × Int):=
 qo gB jd BIG (bV (jd+1)) []
def jI(gB:Str)(jd:Int):Nat→Int→Option (aG × Int × Int)
 | 0,_=>none
 | dL+1,x1=>
  if decide (x1<(([2,1]:List Int).length:Int))then
   av (idx ([2,1]:List Int) x1) fun n1=>
   if decide ((gB.length:Int)<(bV (jd+n1)))then
    jI gB jd dL (bV (x1+1))
   else
    av (sl gB jd (bV (jd+n1))) fun s1=>
    if s1==([124,124]:Str)then
     some ((aG.mk 4 s1 jd),(bV (jd+n1)),0)
    else
     if s1==([38,38]:Str)then
      some ((aG.mk 4 s1 jd),(bV (jd+n1)),0)
     else
      if s1==([61,61]:Str)then
       some ((aG.mk 4 s1 jd),(bV (jd+n1)),0)
      else
       if s1==([33,61]:Str)then
        some ((aG.mk 4 s1 jd),(bV (jd+n1)),0)
       else
        if s1==([60,61]:Str)then
         some ((aG.mk 4 s1 jd),(bV (jd+n1)),0)
        else
         if s1==([62,61]:Str)then
          some ((aG.mk 4 s1 jd),(bV (jd+n1)),0)
         else
          if s1==([60]:Str)then
           some ((aG.mk 4 s1 jd),(bV (jd+n1)),0)
          else
           if s1==([62]:Str)then
            some ((aG.mk 4 s1 jd),(bV (jd+n1)),0)
           else
            if s1==([43]:Str)then
             some ((aG.mk 4 s1 jd),(bV (jd+n1)),0)
            else
             if s1==([45]:Str)then
              some ((aG.mk 4 s1 jd),(bV (jd+n1)),0)
             else
              if s1==([42]:Str)then
               some ((aG.mk 4 s1 jd),(bV (jd+n1)),0)
              else
               if s1==([47]:Str)then
                some ((aG.mk 4 s1 jd),(bV (jd+n1)),0)
               else
                if s1==([37]:Str)then
                 some ((aG.mk 4 s1 jd),(bV (jd+n1)),0)
                else
                 if s1==([33]:Str)then
                  some ((aG.mk 4 s1 jd),(bV (jd+n1)),0)
                 else
                  if s1==([63]:Str)then
                   some ((aG.mk 4 s1 jd),(bV (jd+n1)),0)
                  else
                   if s1==([58]:Str)then
                    some ((aG.mk 4 s1 jd),(bV (jd+n1)),0)
                   else
                    if s1==([46]:Str)then
                     some ((aG.mk 4 s1 jd),(bV (jd+n1)),0)
                    else
                     if s1==([44]:Str)then
                      some ((aG.mk 4 s1 jd),(bV (jd+n1)),0)
                     else
                      if s1==([61]:Str)then
                       some ((aG.mk 4 s1 jd),(bV (jd+n1)),0)
                      else
                       if s1==([40]:Str)then
                        some ((aG.mk 4 s1 jd),(bV (jd+n1)),0)
                       else
                        if s1==([41]:Str)then
                         some ((aG.mk 4 s1 jd),(bV (jd+n1)),0)
                        else
                         if s1==([91]:Str)then
                          some ((aG.mk 4 s1 jd),(bV (jd+n1)),0)
                         else
                          if s1==([93]:Str)then
                           some ((aG.mk 4 s1 jd),(bV (jd+n1)),0)
                          else
                           if s1==([123]:Str)then
                            some ((aG.mk 4 s1 jd),(bV (jd+n1)),0)
                           else
                            if s1==([125]:Str)then
                             some ((aG.mk 4 s1 jd),(bV (jd+n1)),0)
                            else
                             jI gB jd dL (bV (x1+1))
  else
   some ((aG.mk 0 ([]:Str) 0),0,5)
def t_(gB:Str)(jd:Int):Option (aG × Int × Int):=
 jI gB jd BIG 0
def Ai(gB:Str)(jd:Int):Option (aG × Int × Int):=
 av (idx gB jd) fun c1=>
 av (rM c1) fun x1=>
 if x1 then
  CS gB jd
 else
  av (qZ c1) fun x5=>
  if x5 then
   yB gB jd
  else
   if (c1.toNat:Int)==34 then
    CR gB jd
   else
    t_ gB jd
def uf(op1:Str)(kL:Int):Option Int:=
 if op1==([40]:Str)then
  some (bV (kL+1))
 else
  if op1==([91]:Str)then
   some (bV (kL+1))
  else
   if op1==([41]:Str)then
    some (if 0<(bV (kL-1))then (bV (kL-1))else 0)
   else
    if op1==([93]:Str)then
     some (if 0<(bV (kL-1))then (bV (kL-1))else 0)
    else
     some kL
def jy(gB:Str):Nat→List aG→Int→Int→Nat→Option (List aG × Int × Int)
 | 0,_,_,_,_=>none
 | dL+1,bD,CO,kL,pos1=>
  if decide (pos1<gB.length)then
   av (
     if decide ((pos1:Int)<CO)then
      some true
     else
      yC ((dec gB pos1).1:Int)) fun b1=>
   if b1 then
    jy gB dL bD CO kL (pos1+(dec gB pos1).2)
   else
    if ((dec gB pos1).1:Int)==35 then
     av (xC gB (pos1:Int) ug) fun afM=>
     jy gB dL bD afM kL (pos1+(dec gB pos1).2)
    else
     if ((dec gB pos1).1:Int)==10 then
      av (
        if kL==0 then
         if (bD.length:Int)==0 then
          some true
         else
          av (idx bD (bV ((bD.length:Int)-1))) fun e1=>
          some (e1.kind !=5)
        else
         some false) fun b2=>
      if b2 then
       av (app bD [(aG.mk 5 ([]:Str) (pos1:Int))]) fun xI=>
       jy gB dL xI CO kL (pos1+(dec gB pos1).2)
      else
       jy gB dL bD CO kL (pos1+(dec gB pos1).2)
     else
      Au (Ai gB (pos1:Int)) fun x2 vH e2=>
      if e2 !=0 then
       some ([],(pos1:Int),e2)
      else
       if x2.kind==4 then
        av (uf x2.text kL) fun afE=>
        av (app bD [x2]) fun ah3=>
        jy gB dL ah3 vH afE (pos1+(dec gB pos1).2)
       else
        av (app bD [x2]) fun afB=>
        jy gB dL afB vH kL (pos1+(dec gB pos1).2)
  else
   some (bD,0,0)
def oo(gB:Str):Option (List aG × Int × Int):=
 if decide (65536<(gB.length:Int))then
  some ([],0,3)
 else
  jy gB BIG [] 0 0 0
def vT(c1:UInt8):Option Bool:=
 some ((((decide (97≤(c1.toNat:Int)))&&(decide ((c1.toNat:Int)≤122)))||((decide (65≤(c1.toNat:Int)))&&(decide ((c1.toNat:Int)≤90))))||((c1.toNat:Int)==95))
def om(c1:UInt8):Option Bool:=
 some ((decide (48≤(c1.toNat:Int)))&&(decide ((c1.toNat:Int)≤57)))
def qI(s1:Str):Nat→Int→Option Bool
 | 0,_=>none
 | dL+1,i1=>
  if decide (i1<(s1.length:Int))then
   av (idx s1 i1) fun x3=>
   av (vT x3) fun x4=>
   av (
     if !x4 then
      av (idx s1 i1) fun x5=>
      av (om x5) fun x6=>
      some (!x6)
     else
      some false) fun b2=>
   if b2 then
    some false
   else
    qI s1 dL (bV (i1+1))
  else
   some true
def xA(s1:Str):Option Bool:=
 av (
   if (decide ((s1.length:Int)<1))||(decide (64<(s1.length:Int)))then
    some true
   else
    av (idx s1 0) fun x1=>
    av (vT x1) fun x2=>
    some (!x2)) fun b1=>
 if b1 then
  some false
 else
  qI s1 BIG 0
def strconv_Itoa(n1:Int):Option Str:=
 if -9223372036854775808≤n1∧n1≤9223372036854775807 then some (um n1)else none
def strconv_Atoi(s1:Str):Option (Int × Option Nat):=
 if s1.length≤281474976710656 then some ((uM s1).2,if (uM s1).1=0 then none else some 353)else none
def lX(s1:Str):Nat→Int→Option Bool
 | 0,_=>none
 | dL+1,i1=>
  if decide (i1<(s1.length:Int))then
   av (idx s1 i1) fun x2=>
   av (om x2) fun x3=>
   if !x3 then
    some false
   else
    lX s1 dL (bV (i1+1))
  else
   fI (strconv_Atoi s1) fun n1 Sq=>
   some ((Sq.isNone)&&(decide (n1≤9007199254740992)))
def tY(s1:Str):Option Bool:=
 av (
   if s1==([]:Str)then
    some true
   else
    if decide (1<(s1.length:Int))then
     av (idx s1 0) fun x1=>
     some ((x1.toNat:Int)==48)
    else
     some false) fun b1=>
 if b1 then
  some false
 else
  lX s1 BIG 0
def jQ(t1:aG):Option Bool:=
 if t1.kind==1 then
  xA t1.text
 else
  if t1.kind==2 then
   tY t1.text
  else
   if t1.kind==3 then
    some (decide ((t1.text.length:Int)≤4096))
   else
    if t1.kind==4 then
     some true
    else
     some false
def jR(o9:au):Option (aG × au):=
 av (
   if decide (o9.at_<(o9.ts.length:Int))then
    av (idx o9.ts o9.at_) fun e1=>
    jQ e1
   else
    some false) fun b1=>
 if b1 then
  av (idx o9.ts o9.at_) fun e2=>
  some (e2,o9)
 else
  some ((aG.mk 0 ([]:Str) 0),o9)
def uW(o9:au)(op1:Str):Option (Bool × au):=
 fI (jR o9) fun x1 y1=>
 some (((x1.kind==4)&&(x1.text==op1)),y1)
def dN(o9:au)(op1:Str):Option (Bool × au):=
 fI (uW o9 op1) fun x1 y1=>
 if !x1 then
  some (false,y1)
 else
  some (true,(au.mk y1.ts (bV (y1.at_+1))))
def iq(o9:au)(e1:Int):Option (eX ay Unit × au):=
 some (.bad (ay.mk o9.at_ e1),o9)
def jS(o9:au):Option (eX ay aG × au):=
 if decide ((o9.ts.length:Int)≤o9.at_)then
  gV (iq o9 4) (fun e1 y2=>some (.bad e1,y2)) fun _ y1=>
  fI (jR y1) fun x1 y3=>
  if x1.kind==0 then
   gV (iq y3 5) (fun e2 y5=>some (.bad e2,y5)) fun _ y4=>
   some (.ok x1,y4)
  else
   some (.ok x1,y3)
 else
  fI (jR o9) fun x2 y6=>
  if x2.kind==0 then
   gV (iq y6 5) (fun e3 y8=>some (.bad e3,y8)) fun _ y7=>
   some (.ok x2,y7)
  else
   some (.ok x2,y6)
def qJ(v1:ah):Option ak:=
 some (ak.mk 1 ([]:Str) v1 [] [])
def pK(s1:Str):Option Bool:=
 some (((s1==([116,114,117,101]:Str))||(s1==([102,97,108,115,101]:Str)))||(s1==([110,117,108,108]:Str)))
def fQ(o9:au)(op1:Str):Option (eX ay Unit × au):=
 gV (jS o9) (fun e1 y2=>some (.bad e1,y2)) fun x1 y1=>
 fI (dN y1 op1) fun x2 y3=>
 if !x2 then
  gV (iq y3 5) (fun e2 y5=>some (.bad e2,y5)) fun _ y4=>
  some (.ok (),y4)
 else
  some (.ok (),y3)
def fO(op1:Str):Option Int:=
 if op1==([124,124]:Str)then
  some 2
 else
  if op1==([38,38]:Str)then
   some 3
  else
   if op1==([61,61]:Str)then
    some 4
   else
    if op1==([33,61]:Str)then
     some 4
    else
     if op1==([60]:Str)then
      some 4
     else
      if op1==([60,61]:Str)then
       some 4
      else
       if op1==([62]:Str)then
        some 4
       else
        if op1==([62,61]:Str)then
         some 4
        else
         if op1==([43]:Str)then
          some 5
         else
          if op1==([45]:Str)then
           some 5
          else
           if op1==([42]:Str)then
            some 6
           else
            if op1==([47]:Str)then
             some 6
            else
             if op1==([37]:Str)then
              some 6
             else
              some 0
def mq(aD:au→Option (eX ay ak × au))(aO:au→Int→Option (eX ay ak × au))(aS aT bq:au→Option (eX ay ak × au))(bn:au→Str→Option (eX ay ak × au))(bf:au→Str→Option (eX ay (List ak) × au))(aU:au→Option (eX ay ak × au))(o9:au):Option (eX ay ak × au):=
 gV (aO o9 2) (fun e1 y2=>some (.bad e1,y2)) fun x1 y1=>
 fI (dN y1 ([63]:Str)) fun x2 y3=>
 if !x2 then
  some (.ok x1,y3)
 else
  gV (aD y3) (fun e2 y5=>some (.bad e2,y5)) fun x3 y4=>
  gV (fQ y4 ([58]:Str)) (fun e3 y7=>some (.bad e3,y7)) fun _ y6=>
  gV (aD y6) (fun e4 y9=>some (.bad e4,y9)) fun x4 y8=>
  some (.ok (ak.mk 8 ([]:Str) (ah.mk 0 false 0 ([]:Str) [] []) [x1,x3,x4] []),y8)
def iT(aO:au→Int→Option (eX ay ak × au))(n1:Int):Nat→ak→au→Option (eX ay ak × au)
 | 0,_,_=>none
 | dL+1,e3,y5=>
  fI (jR y5) fun x3 y6=>
  av (
    if x3.kind !=4 then
     some true
    else
     av (fO x3.text) fun x4=>
     some (x4 !=n1)) fun b1=>
  if b1 then
   some (.ok e3,y6)
  else
   gV (aO (au.mk y6.ts (bV (y6.at_+1))) (bV (n1+1))) (fun e4 y8=>some (.bad e4,y8)) fun x5 y7=>
   if n1==4 then
    some (.ok (ak.mk 7 x3.text (ah.mk 0 false 0 ([]:Str) [] []) [e3,x5] []),y7)
   else
    iT aO n1 dL (ak.mk 7 x3.text (ah.mk 0 false 0 ([]:Str) [] []) [e3,x5] []) y7
def kK(aD:au→Option (eX ay ak × au))(aO:au→Int→Option (eX ay ak × au))(aS aT bq:au→Option (eX ay ak × au))(bn:au→Str→Option (eX ay ak × au))(bf:au→Str→Option (eX ay (List ak) × au))(aU:au→Option (eX ay ak × au))(o9:au)(n1:Int):Option (eX ay ak × au):=
 if n1==7 then
  gV (aS o9) (fun e1 y2=>some (.bad e1,y2)) fun x1 y1=>
  some (.ok x1,y1)
 else
  gV (aO o9 (bV (n1+1))) (fun e2 y4=>some (.bad e2,y4)) fun x2 y3=>
  iT aO n1 BIG x2 y3
def jm(aS aT:au→Option (eX ay ak × au)):Nat→Int→au→Option (eX ay ak × au)
 | 0,_,_=>none
 | dL+1,x1,y1=>
  if decide (x1<(([([33]:Str),([45]:Str)]:List Str).length:Int))then
   av (idx ([([33]:Str),([45]:Str)]:List Str) x1) fun op1=>
   fI (dN y1 op1) fun x2 y2=>
   if x2 then
    gV (aS y2) (fun e1 y4=>some (.bad e1,y4)) fun x3 y3=>
    some (.ok (ak.mk 6 op1 (ah.mk 0 false 0 ([]:Str) [] []) [x3] []),y3)
   else
    jm aS aT dL (bV (x1+1)) y2
  else
   gV (aT y1) (fun e2 y6=>some (.bad e2,y6)) fun x4 y5=>
   some (.ok x4,y5)
def oW(aD:au→Option (eX ay ak × au))(aO:au→Int→Option (eX ay ak × au))(aS aT bq:au→Option (eX ay ak × au))(bn:au→Str→Option (eX ay ak × au))(bf:au→Str→Option (eX ay (List ak) × au))(aU:au→Option (eX ay ak × au))(o9:au):Option (eX ay ak × au):=
 jm aS aT BIG 0 o9
def gX(aD:au→Option (eX ay ak × au)):Nat→ak→au→Option (eX ay ak × au)
 | 0,_,_=>none
 | dL+1,e2,y3=>
  fI (dN y3 ([46]:Str)) fun x2 y4=>
  if x2 then
   gV (jS y4) (fun e3 y6=>some (.bad e3,y6)) fun x3 y5=>
   av (
     if x3.kind !=1 then
      some true
     else
      pK x3.text) fun b1=>
   if b1 then
    gV (iq y5 5) (fun e4 y8=>some (.bad e4,y8)) fun _ y7=>
    gX aD dL (ak.mk 3 x3.text (ah.mk 0 false 0 ([]:Str) [] []) [e2] []) (au.mk y7.ts (bV (y7.at_+1)))
   else
    gX aD dL (ak.mk 3 x3.text (ah.mk 0 false 0 ([]:Str) [] []) [e2] []) (au.mk y5.ts (bV (y5.at_+1)))
  else
   fI (dN y4 ([91]:Str)) fun x5 y9=>
   if x5 then
    gV (aD y9) (fun e5 y11=>some (.bad e5,y11)) fun x6 y10=>
    gV (fQ y10 ([93]:Str)) (fun e6 y13=>some (.bad e6,y13)) fun _ y12=>
    gX aD dL (ak.mk 4 ([]:Str) (ah.mk 0 false 0 ([]:Str) [] []) [e2,x6] []) y12
   else
    some (.ok e2,y9)
def oZ(aD:au→Option (eX ay ak × au))(aO:au→Int→Option (eX ay ak × au))(aS aT bq:au→Option (eX ay ak × au))(bn:au→Str→Option (eX ay ak × au))(bf:au→Str→Option (eX ay (List ak) × au))(aU:au→Option (eX ay ak × au))(o9:au):Option (eX ay ak × au):=
 gV (bq o9) (fun e1 y2=>some (.bad e1,y2)) fun x1 y1=>
 gX aD BIG x1 y1
def pQ(aD:au→Option (eX ay ak × au))(aO:au→Int→Option (eX ay ak × au))(aS aT bq:au→Option (eX ay ak × au))(bn:au→Str→Option (eX ay ak × au))(bf:au→Str→Option (eX ay (List ak) × au))(aU:au→Option (eX ay ak × au))(o9:au):Option (eX ay ak × au):=
 gV (jS o9) (fun e1 y2=>some (.bad e1,y2)) fun x1 y1=>
 if x1.kind==2 then
  fI (strconv_Atoi x1.text) fun n1 x2=>
  av (qJ (ah.mk 2 false n1 ([]:Str) [] [])) fun x3=>
  some (.ok x3,(au.mk y1.ts (bV (y1.at_+1))))
 else
  if x1.kind==3 then
   av (qJ (ah.mk 3 false 0 x1.text [] [])) fun x4=>
   some (.ok x4,(au.mk y1.ts (bV (y1.at_+1))))
  else
   if x1.kind==1 then
    gV (bn (au.mk y1.ts (bV (y1.at_+1))) x1.text) (fun e2 y4=>some (.bad e2,y4)) fun x5 y3=>
    some (.ok x5,y3)
   else
    fI (dN y1 ([40]:Str)) fun x6 y5=>
    if x6 then
     gV (aD y5) (fun e3 y7=>some (.bad e3,y7)) fun x7 y6=>
     gV (fQ y6 ([41]:Str)) (fun e4 y9=>some (.bad e4,y9)) fun _ y8=>
     some (.ok x7,y8)
    else
     fI (dN y5 ([91]:Str)) fun x8 y10=>
     if x8 then
      gV (bf y10 ([93]:Str)) (fun e5 y12=>some (.bad e5,y12)) fun x9 y11=>
      some (.ok (ak.mk 9 ([]:Str) (ah.mk 0 false 0 ([]:Str) [] []) x9 []),y11)
     else
      fI (dN y10 ([123]:Str)) fun EB y13=>
      if EB then
       gV (aU y13) (fun e6 y15=>some (.bad e6,y15)) fun La y14=>
       some (.ok La,y14)
      else
       gV (iq y13 5) (fun e7 y17=>some (.bad e7,y17)) fun _ y16=>
       some (.ok (ak.mk 0 ([]:Str) (ah.mk 0 false 0 ([]:Str) [] []) [] []),y16)
def pO(aD:au→Option (eX ay ak × au))(aO:au→Int→Option (eX ay ak × au))(aS aT bq:au→Option (eX ay ak × au))(bn:au→Str→Option (eX ay ak × au))(bf:au→Str→Option (eX ay (List ak) × au))(aU:au→Option (eX ay ak × au))(o9:au)(s1:Str):Option (eX ay ak × au):=
 if s1==([110,117,108,108]:Str)then
  av (qJ (ah.mk 0 false 0 ([]:Str) [] [])) fun x1=>
  some (.ok x1,o9)
 else
  av (pK s1) fun x2=>
  if x2 then
   av (qJ (ah.mk 1 (s1==([116,114,117,101]:Str)) 0 ([]:Str) [] [])) fun x3=>
   some (.ok x3,o9)
  else
   fI (dN o9 ([40]:Str)) fun x4 y1=>
   if x4 then
    gV (bf y1 ([41]:Str)) (fun e1 y3=>some (.bad e1,y3)) fun x5 y2=>
    some (.ok (ak.mk 5 s1 (ah.mk 0 false 0 ([]:Str) [] []) x5 []),y2)
   else
    some (.ok (ak.mk 2 s1 (ah.mk 0 false 0 ([]:Str) [] []) [] []),y1)
def kT(aD:au→Option (eX ay ak × au))(vH:Str):Nat→List ak→au→Option (eX ay (List ak) × au)
 | 0,_,_=>none
 | dL+1,bD,y2=>
  gV (aD y2) (fun e1 y4=>some (.bad e1,y4)) fun x2 y3=>
  av (app bD [x2]) fun xI=>
  fI (dN y3 ([44]:Str)) fun x3 y5=>
  if !x3 then
   gV (fQ y5 vH) (fun e2 y7=>some (.bad e2,y7)) fun _ y6=>
   some (.ok xI,y6)
  else
   kT aD vH dL xI y5
def pR(aD:au→Option (eX ay ak × au))(aO:au→Int→Option (eX ay ak × au))(aS aT bq:au→Option (eX ay ak × au))(bn:au→Str→Option (eX ay ak × au))(bf:au→Str→Option (eX ay (List ak) × au))(aU:au→Option (eX ay ak × au))(o9:au)(vH:Str):Option (eX ay (List ak) × au):=
 fI (dN o9 vH) fun x1 y1=>
 if x1 then
  some (.ok [],y1)
 else
  kT aD vH BIG [] y1
def iM(aD:au→Option (eX ay ak × au)):Nat→ak→au→Option (eX ay ak × au)
 | 0,_,_=>none
 | dL+1,bD,y2=>
  gV (jS y2) (fun e1 y4=>some (.bad e1,y4)) fun x2 y3=>
  if (x2.kind !=1)&&(x2.kind !=3)then
   gV (iq y3 5) (fun e2 y6=>some (.bad e2,y6)) fun _ y5=>
   gV (fQ (au.mk y5.ts (bV (y5.at_+1))) ([58]:Str)) (fun e3 y8=>some (.bad e3,y8)) fun _ y7=>
   av (app bD.keys ([x2.text]:List Str)) fun x3=>
   gV (aD y7) (fun e4 y10=>some (.bad e4,y10)) fun x4 y9=>
   av (app bD.args [x4]) fun x5=>
   fI (dN y9 ([44]:Str)) fun x6 y11=>
   if !x6 then
    gV (fQ y11 ([125]:Str)) (fun e5 y13=>some (.bad e5,y13)) fun _ y12=>
    some (.ok (ak.mk bD.kind bD.name bD.value x5 x3),y12)
   else
    iM aD dL (ak.mk bD.kind bD.name bD.value x5 x3) y11
  else
   gV (fQ (au.mk y3.ts (bV (y3.at_+1))) ([58]:Str)) (fun e6 y15=>some (.bad e6,y15)) fun _ y14=>
   av (app bD.keys ([x2.text]:List Str)) fun x7=>
   gV (aD y14) (fun e7 y17=>some (.bad e7,y17)) fun x8 y16=>
   av (app bD.args [x8]) fun x9=>
   fI (dN y16 ([44]:Str)) fun EB y18=>
   if !EB then
    gV (fQ y18 ([125]:Str)) (fun e8 y20=>some (.bad e8,y20)) fun _ y19=>
    some (.ok (ak.mk bD.kind bD.name bD.value x9 x7),y19)
   else
    iM aD dL (ak.mk bD.kind bD.name bD.value x9 x7) y18
def nu(aD:au→Option (eX ay ak × au))(aO:au→Int→Option (eX ay ak × au))(aS aT bq:au→Option (eX ay ak × au))(bn:au→Str→Option (eX ay ak × au))(bf:au→Str→Option (eX ay (List ak) × au))(aU:au→Option (eX ay ak × au))(o9:au):Option (eX ay ak × au):=
 fI (dN o9 ([125]:Str)) fun x1 y1=>
 if x1 then
  some (.ok (ak.mk 10 ([]:Str) (ah.mk 0 false 0 ([]:Str) [] []) [] []),y1)
 else
  iM aD BIG (ak.mk 10 ([]:Str) (ah.mk 0 false 0 ([]:Str) [] []) [] []) y1
mutual
def aR:Nat→au→Option (eX ay ak × au)
 | 0,_=>none
 | k+1,gT=>mq (aR k) (aZ k) (bP k) (bW k) (bZ k) (cK k) (bT k) (bL k) gT
def aZ:Nat→au→Int→Option (eX ay ak × au)
 | 0,_,_=>none
 | k+1,gT,ZW=>kK (aR k) (aZ k) (bP k) (bW k) (bZ k) (cK k) (bT k) (bL k) gT ZW
def bP:Nat→au→Option (eX ay ak × au)
 | 0,_=>none
 | k+1,gT=>oW (aR k) (aZ k) (bP k) (bW k) (bZ k) (cK k) (bT k) (bL k) gT
def bW:Nat→au→Option (eX ay ak × au)
 | 0,_=>none
 | k+1,gT=>oZ (aR k) (aZ k) (bP k) (bW k) (bZ k) (cK k) (bT k) (bL k) gT
def bZ:Nat→au→Option (eX ay ak × au)
 | 0,_=>none
 | k+1,gT=>pQ (aR k) (aZ k) (bP k) (bW k) (bZ k) (cK k) (bT k) (bL k) gT
def cK:Nat→au→Str→Option (eX ay ak × au)
 | 0,_,_=>none
 | k+1,gT,rZ=>pO (aR k) (aZ k) (bP k) (bW k) (bZ k) (cK k) (bT k) (bL k) gT rZ
def bT:Nat→au→Str→Option (eX ay (List ak) × au)
 | 0,_,_=>none
 | k+1,gT,Gj=>pR (aR k) (aZ k) (bP k) (bW k) (bZ k) (cK k) (bT k) (bL k) gT Gj
def bL:Nat→au→Option (eX ay ak × au)
 | 0,_=>none
 | k+1,gT=>nu (aR k) (aZ k) (bP k) (bW k) (bZ k) (cK k) (bT k) (bL k) gT
end
def qH(gT:au):Option (eX ay ak × au):=aR BIG gT
def EM(gT:au)(ZW:Int):Option (eX ay ak × au):=aZ BIG gT ZW
def JV(gT:au):Option (eX ay ak × au):=bP BIG gT
def JW(gT:au):Option (eX ay ak × au):=bW BIG gT
def KI(gT:au):Option (eX ay ak × au):=bZ BIG gT
def KH(gT:au)(rZ:Str):Option (eX ay ak × au):=cK BIG gT rZ
def KJ(gT:au)(Gj:Str):Option (eX ay (List ak) × au):=bT BIG gT Gj
def GN(gT:au):Option (eX ay ak × au):=bL BIG gT
def DT(MU:List aG):Option (ak × Int × Int):=
 gV (qH (au.mk MU 0)) (fun f1 _=>some ((ak.mk 0 ([]:Str) (ah.mk 0 false 0 ([]:Str) [] []) [] []),f1.at_,f1.code)) fun e1 r1=>
 some (e1,r1.at_,0)
def su(j_:ak→Option Int)(e1:ak):Nat→Int→Int→Option Int
 | 0,_,_=>none
 | dL+1,n1,x1=>
  if decide (x1<(e1.args.length:Int))then
   av (idx e1.args x1) fun e2=>
   av (j_ e2) fun x2=>
   su j_ e1 dL (bV (n1+x2)) (bV (x1+1))
  else
   some n1
def yg(j_:ak→Option Int)(e1:ak):Option Int:=
 su j_ e1 BIG 1 0
def lY:Nat→ak→Option Int
 | 0,_=>none
 | k+1,kS=>yg (lY k) kS
def Bt(kS:ak):Option Int:=lY BIG kS
def DR(v1:ah):Option Bool:=
 some ((((((v1.kind==0)&&(!v1.dR))&&(v1.dA==0))&&(v1.bR==([]:Str)))&&((v1.aN.length:Int)==0))&&((v1.keys.length:Int)==0))
def oh(s1:Str):Option Bool:=
 av (xA s1) fun x1=>
 if x1 then
  av (pK s1) fun x2=>
  some (!x2)
 else
  some false
def xX(e1:ak):Option Bool:=
 if e1.kind==2 then
  oh e1.name
 else
  if e1.kind==3 then
   oh e1.name
  else
   if e1.kind==5 then
    oh e1.name
   else
    if e1.kind==6 then
     some ((e1.name==([33]:Str))||(e1.name==([45]:Str)))
    else
     if e1.kind==7 then
      av (fO e1.name) fun x4=>
      some (decide (0<x4))
     else
      some (e1.name==([]:Str))
def xZ(e1:ak):Option Bool:=
 if e1.kind==1 then
  some ((e1.args.length:Int)==0)
 else
  if e1.kind==2 then
   some ((e1.args.length:Int)==0)
  else
   if e1.kind==3 then
    some ((e1.args.length:Int)==1)
   else
    if e1.kind==6 then
     some ((e1.args.length:Int)==1)
    else
     if e1.kind==4 then
      some ((e1.args.length:Int)==2)
     else
      if e1.kind==7 then
       some ((e1.args.length:Int)==2)
      else
       if e1.kind==8 then
        some ((e1.args.length:Int)==3)
       else
        some true
def g_(s1:List Str)(f1:Str→Option Bool):Nat→Int→Option Int
 | 0,_=>none
 | dL+1,i1=>
  if decide (i1<(s1.length:Int))then
   av (idx s1 i1) fun e1=>
   av (f1 e1) fun x1=>
   if x1 then
    some i1
   else
    g_ s1 f1 dL (bV (i1+1))
  else
   some (-1)
def jH(s1:List Str)(f1:Str→Option Bool):Option Int:=
 g_ s1 f1 BIG 0
def h_(s1:List Str)(f1:Str→Option Bool):Option Bool:=
 av (jH s1 f1) fun x1=>
 some (decide (0≤x1))
def kX(GY:Str):Option Bool:=
 some ((decide ((GY.length:Int)<1))||(decide (64<(GY.length:Int))))
def xY(e1:ak):Option Bool:=
 if e1.kind !=10 then
  some ((e1.keys.length:Int)==0)
 else
  if (e1.keys.length:Int)==(e1.args.length:Int)then
   av (h_ e1.keys kX) fun x1=>
   some (!x1)
  else
   some false
def lS{β:Type}(go:β→ah→Int→Option (Bool × β))(v1:ah)(b_:Int):Nat→β→Int→Option (Bool × β)
 | 0,_,_=>none
 | dL+1,s1,i1=>
  if decide (i1<(v1.aN.length:Int))then
   av (idx v1.aN i1) fun x1=>
   fI (go s1 x1 (bV (b_+1))) fun b1 s2=>
   if !b1 then
    some (false,s2)
   else
    lS go v1 b_ dL s2 (bV (i1+1))
  else
   some (true,s1)
def uP{β:Type}(go:β→ah→Int→Option (Bool × β))(y:β→Int→ah→Option (Bool × β))(s1:β)(v1:ah)(b_:Int):Option (Bool × β):=
 fI (y s1 b_ v1) fun b1 s2=>
 if !b1 then
  some (false,s2)
 else
  lS go v1 b_ BIG s2 0
def gW{β:Type}(y:β→Int→ah→Option (Bool × β)):Nat→β→ah→Int→Option (Bool × β)
 | 0,_,_,_=>none
 | k+1,s1,v1,b_=>uP (gW y k) y s1 v1 b_
def Cr{β:Type}(y:β→Int→ah→Option (Bool × β))(s1:β)(v1:ah)(b_:Int):Option (Bool × β):=gW y BIG s1 v1 b_
def A9(v1:ah):Option Bool:=
 some ((((((v1.kind==1)||(!v1.dR))&&((v1.kind==2)||(v1.dA==0)))&&((v1.kind==3)||(v1.bR==([]:Str))))&&(((v1.kind==4)||(v1.kind==5))||((v1.aN.length:Int)==0)))&&((v1.kind==5)||((v1.keys.length:Int)==0)))
def DW(c1:UInt8):Option Bool:=
 some ((decide (48≤(c1.toNat:Int)))&&(decide ((c1.toNat:Int)≤57)))
def yF(s1:Str):Nat→Int→Option Int
 | 0,_=>none
 | dL+1,n1=>
  av (
    if decide (n1<(s1.length:Int))then
     av (idx s1 n1) fun x1=>
     DW x1
    else
     some false) fun b1=>
  if b1 then
   yF s1 dL (bV (n1+1))
  else
   some n1
def Cg(s1:Str):Option Int:=
 yF s1 BIG 0
def iR(c1:UInt8):Nat→Str→Option Str
 | 0,_=>none
 | dL+1,s2=>
  av (
    if decide (0<(s2.length:Int))then
     av (idx s2 0) fun x1=>
     some ((x1.toNat:Int)==(c1.toNat:Int))
    else
     some false) fun b1=>
  if b1 then
   av (sl s2 1 (s2.length:Int)) fun s3=>
   iR c1 dL s3
  else
   some s2
def strings_trimLeftByte(s1:Str)(c1:UInt8):Option Str:=
 iR c1 BIG s1
def oH(s1 D6:Str):Option Str:=
 if (s1==([]:Str))||(D6==([]:Str))then
  some s1
 else
  av (
    if (D6.length:Int)==1 then
     av (idx D6 0) fun x1=>
     some (decide ((x1.toNat:Int)<128))
    else
     some false) fun b1=>
  if b1 then
   av (idx D6 0) fun x2=>
   strings_trimLeftByte s1 x2
  else
   none
def cmp_isNaN_int(x1:Int):Option Bool:=
 some (x1 !=x1)
def cmp_Compare_int(x1 y1:Int):Option Int:=
 av (cmp_isNaN_int x1) fun Oi=>
 av (cmp_isNaN_int y1) fun GZ=>
 if Oi then
  if GZ then
   some 0
  else
   some (-1)
 else
  if GZ then
   some 1
  else
   if decide (x1<y1)then
    some (-1)
   else
    if decide (y1<x1)then
     some 1
    else
     some 0
def cmp_isNaN_string(x1:Str):Option Bool:=
 some (!(x1==x1))
def mK(x1 y1:Str):Option Int:=
 av (cmp_isNaN_string x1) fun Oi=>
 av (cmp_isNaN_string y1) fun GZ=>
 if Oi then
  if GZ then
   some 0
  else
   some (-1)
 else
  if GZ then
   some 1
  else
   if Go.Op.bytesLess x1 y1 then
    some (-1)
   else
    if !(Go.Op.bytesLess x1 y1||x1==y1)then
     some 1
    else
     some 0
def wz(Gi:List Int):Nat→Int→Option Int
 | 0,_=>none
 | dL+1,x1=>
  if decide (x1<(Gi.length:Int))then
   av (idx Gi x1) fun acX=>
   if acX !=0 then
    some acX
   else
    wz Gi dL (bV (x1+1))
  else
   some 0
def Dc(Gi:List Int):Option Int:=
 wz Gi BIG 0
def vX(a1 b1:Str):Option Int:=
 av (oH a1 ([48]:Str)) fun x1=>
 av (oH b1 ([48]:Str)) fun y1=>
 av (cmp_Compare_int (x1.length:Int) (y1.length:Int)) fun x2=>
 av (mK x1 y1) fun x3=>
 av (cmp_Compare_int (a1.length:Int) (b1.length:Int)) fun x4=>
 Dc ([x2,x3,x4]:List Int)
def uH(x1:UInt8):Option Bool:=
 some ((x1.toNat:Int) !=(x1.toNat:Int))
def qU(x1 y1:UInt8):Option Int:=
 av (uH x1) fun Oi=>
 av (uH y1) fun GZ=>
 if Oi then
  if GZ then
   some 0
  else
   some (-1)
 else
  if GZ then
   some 1
  else
   if decide ((x1.toNat:Int)<(y1.toNat:Int))then
    some (-1)
   else
    if decide ((y1.toNat:Int)<(x1.toNat:Int))then
     some 1
    else
     some 0
def kG:Nat→Str→Str→Option Int
 | 0,_,_=>none
 | dL+1,a2,b2=>
  if (!(a2==([]:Str)))&&(!(b2==([]:Str)))then
   av (Cg a2) fun n1=>
   av (Cg b2) fun m1=>
   if (decide (0<n1))&&(decide (0<m1))then
    av (sl a2 0 n1) fun x1=>
    av (sl b2 0 m1) fun x2=>
    av (vX x1 x2) fun c1=>
    if c1 !=0 then
     some c1
    else
     av (sl a2 n1 (a2.length:Int)) fun a3=>
     av (sl b2 m1 (b2.length:Int)) fun b3=>
     kG dL a3 b3
   else
    av (idx a2 0) fun x3=>
    av (idx b2 0) fun x4=>
    if (x3.toNat:Int) !=(x4.toNat:Int)then
     av (idx a2 0) fun x5=>
     av (idx b2 0) fun x6=>
     qU x5 x6
    else
     av (sl a2 1 (a2.length:Int)) fun a4=>
     av (sl b2 1 (b2.length:Int)) fun b4=>
     kG dL a4 b4
  else
   cmp_Compare_int (a2.length:Int) (b2.length:Int)
def jC(a1 b1:Str):Option Int:=
 kG BIG a1 b1
def qE(v1:ah):Nat→Int→Option Bool
 | 0,_=>none
 | dL+1,i1=>
  if decide (i1<(v1.keys.length:Int))then
   av (idx v1.keys i1) fun GY=>
   av (
     if (decide ((GY.length:Int)<1))||(decide (64<(GY.length:Int)))then
      some true
     else
      if decide (0<i1)then
       av (idx v1.keys (bV (i1-1))) fun e1=>
       av (jC e1 GY) fun x1=>
       some (decide (0≤x1))
      else
       some false) fun b1=>
   if b1 then
    some false
   else
    qE v1 dL (bV (i1+1))
  else
   some true
def zY(v1:ah):Option Bool:=
 if (v1.keys.length:Int) !=(v1.aN.length:Int)then
  some false
 else
  qE v1 BIG 0
def Ct(v1:ah)(b_:Int):Option Int:=
 if decide (16<b_)then
  some 13
 else
  av (
    if (decide (v1.kind<0))||(decide (5<v1.kind))then
     some true
    else
     av (A9 v1) fun x1=>
     some (!x1)) fun b1=>
  if b1 then
   some 1
  else
   if (decide (v1.dA<(-9007199254740992)))||(decide (9007199254740992<v1.dA))then
    some 2
   else
    if ((decide (4096<(v1.bR.length:Int)))||(decide (1024<(v1.aN.length:Int))))||(decide (1024<(v1.keys.length:Int)))then
     some 3
    else
     av (
       if v1.kind==5 then
        av (zY v1) fun x2=>
        some (!x2)
       else
        some false) fun b2=>
     if b2 then
      some 1
     else
      if (((v1.kind==4)||(v1.kind==5))&&((v1.aN.length:Int)==0))&&(b_==16)then
       some 13
      else
       some 0
def mP(s1:Option Int)(b_:Int)(x1:ah):Option (Bool × Option Int):=
 match s1 with
 | some _=>none
 | none=>
  av (Ct x1 b_) fun e1=>
  if !(e1==0)then
   some (false,some e1)
  else
   some (true,none)
def kM(v1:ah):Option Int:=
 fI (Cr mP none v1 1) fun _ s1=>
 some (s1.getD 0)
def oP(l1:List Str):Nat→Int→List (Str × Int)→Option Bool
 | 0,_,_=>none
 | dL+1,x1,y1=>
  if decide (x1<(l1.length:Int))then
   av (idx l1 x1) fun s1=>
   if decide (1<(qz (sZ y1 s1 (bV ((qz y1 s1)+1))) s1))then
    some true
   else
    oP l1 dL (bV (x1+1)) (sZ y1 s1 (bV ((qz y1 s1)+1)))
  else
   some false
def sj(l1:List Str):Option Bool:=
 oP l1 BIG 0 []
def Ag(e1:ak)(b_:Int):Option Int:=
 if decide (16<b_)then
  some 13
 else
  av (
    if (decide (e1.kind<1))||(decide (10<e1.kind))then
     some true
    else
     if e1.kind !=1 then
      av (DR e1.value) fun x1=>
      some (!x1)
     else
      some false) fun b1=>
  av (
    if b1 then
     some true
    else
     av (xX e1) fun x2=>
     some (!x2)) fun b3=>
  av (
    if b3 then
     some true
    else
     av (xZ e1) fun x3=>
     some (!x3)) fun b4=>
  av (
    if b4 then
     some true
    else
     av (xY e1) fun x4=>
     some (!x4)) fun b5=>
  if b5 then
   some 1
  else
   av (
     if e1.kind==1 then
      av (kM e1.value) fun x5=>
      some (x5 !=0)
     else
      some false) fun b6=>
   if b6 then
    kM e1.value
   else
    if decide (1024<(e1.args.length:Int))then
     some 3
    else
     av (sj e1.keys) fun x7=>
     if x7 then
      some 7
     else
      some 0
def r_(j6:ak→Int→Option Int)(e1:ak)(b_:Int):Nat→Int→Option Int
 | 0,_=>none
 | dL+1,x1=>
  if decide (x1<(e1.args.length:Int))then
   av (idx e1.args x1) fun e2=>
   av (j6 e2 (bV (b_+1))) fun f2=>
   if f2 !=0 then
    some f2
   else
    r_ j6 e1 b_ dL (bV (x1+1))
  else
   some 0
def xW(j6:ak→Int→Option Int)(e1:ak)(b_:Int):Option Int:=
 av (Ag e1 b_) fun f1=>
 if f1 !=0 then
  some f1
 else
  r_ j6 e1 b_ BIG 0
def lW:Nat→ak→Int→Option Int
 | 0,_,_=>none
 | k+1,kS,lQ=>xW (lW k) kS lQ
def FH(kS:ak)(lQ:Int):Option Int:=lW BIG kS lQ
def kD(e1:ak):Option Int:=
 av (Bt e1) fun x1=>
 if decide (4096<x1)then
  some 15
 else
  FH e1 1
def Ah(MU:List aG):Option (ak × Int × Int):=
 Au (DT MU) fun x1 n1 mI=>
 if mI !=0 then
  some ((ak.mk 0 ([]:Str) (ah.mk 0 false 0 ([]:Str) [] []) [] []),n1,mI)
 else
  av (kD x1) fun Db=>
  if Db !=0 then
   some ((ak.mk 0 ([]:Str) (ah.mk 0 false 0 ([]:Str) [] []) [] []),0,Db)
  else
   some (x1,n1,0)
def Br(MU:List aG)(n1:Int)(gB:Str):Option Int:=
 if decide (n1<(MU.length:Int))then
  av (idx MU n1) fun e1=>
  some e1.at_
 else
  some (gB.length:Int)
def yc(gB:Str):Option (ak × Int × Int):=
 Au (oo gB) fun MU jd mI=>
 if mI !=0 then
  some ((ak.mk 0 ([]:Str) (ah.mk 0 false 0 ([]:Str) [] []) [] []),jd,mI)
 else
  Au (Ah MU) fun x1 n1 Db=>
  if Db !=0 then
   av (Br MU n1 gB) fun x2=>
   some ((ak.mk 0 ([]:Str) (ah.mk 0 false 0 ([]:Str) [] []) [] []),x2,Db)
  else
   if decide (n1<(MU.length:Int))then
    av (idx MU n1) fun e1=>
    some ((ak.mk 0 ([]:Str) (ah.mk 0 false 0 ([]:Str) [] []) [] []),e1.at_,5)
   else
    some (x1,0,0)
def dW(kN:List aY)(text1:Str):Option (List aY):=
 if decide (0<(text1.length:Int))then app kN [(aY.mk text1 false (ak.mk 0 ([]:Str) (ah.mk 0 false 0 ([]:Str) [] []) [] []))]else some kN
def dw(s1:Str):Nat→Int→List aY→Str→Option (List aY × Int × Int)
 | 0,_,_,_=>none
 | dL+1,jd,kN,text1=>
  if decide (jd<(s1.length:Int))then
   av (sl s1 jd (s1.length:Int)) fun Hy=>
   av (strings_HasPrefix Hy ([36,36]:Str)) fun b1=>
   if b1 then
    av (app text1 [36]) fun r9=>
    dw s1 dL (bV (jd+2)) kN r9
   else
    av (strings_HasPrefix Hy ([36,123]:Str)) fun b2=>
    if b2 then
     av (qN s1 (bV (jd+2))) fun vH=>
     if decide (vH<0)then
      some ([],jd,4)
     else
      av (sl s1 (bV (jd+2)) vH) fun x1=>
      Au (yc x1) fun e1 n1 mI=>
      if mI !=0 then
       some ([],(bV ((bV (jd+2))+n1)),mI)
      else
       av (dW kN text1) fun WQ=>
       av (app WQ [(aY.mk ([]:Str) true e1)]) fun WO=>
       dw s1 dL (bV (vH+1)) WO []
    else
     av (idx s1 jd) fun c1=>
     av (app text1 [c1]) fun aeS=>
     dw s1 dL (bV (jd+1)) kN aeS
  else
   av (dW kN text1) fun ab1=>
   some (ab1,0,0)
def lF(s1:Str):Option (List aY × Int × Int):=
 if decide (4096<(s1.length:Int))then
  some ([],0,3)
 else
  dw s1 BIG 0 [] []
def Am(eY:List aB):Nat→Int→List (Str × Int)→Option Int
 | 0,_,_=>none
 | dL+1,x1,y1=>
  if decide (x1<(eY.length:Int))then
   av (idx eY x1) fun e1=>
   av (kD (ak.mk 2 e1.name (ah.mk 0 false 0 ([]:Str) [] []) [] [])) fun x2=>
   if x2 !=0 then
    some 1
   else
    av (kM e1.value) fun e2=>
    if e2 !=0 then
     some e2
    else
     if decide (1<(qz (sZ y1 e1.name (bV ((qz y1 e1.name)+1))) e1.name))then
      some 7
     else
      Am eY dL (bV (x1+1)) (sZ y1 e1.name (bV ((qz y1 e1.name)+1)))
  else
   some 0
def CZ(eY:List aB):Option Int:=
 if decide (1024<(eY.length:Int))then
  some 3
 else
  Am eY BIG 0 []
def DZ(e1:ak)(eY:List aB):Option (List aB × Int):=
 av (CZ eY) fun f1=>
 if f1 !=0 then
  some ([],f1)
 else
  av (kD e1) fun f2=>
  if f2 !=0 then
   some ([],f2)
  else
   some (eY,0)
def zB(e1:Int):Option (eX aF Unit):=
 some (.bad (aF.mk e1))
def oV(s1:List aB)(name1:Str):Nat→Int→Option (eX aF ah)
 | 0,_=>none
 | dL+1,x1=>
  if decide (x1<(s1.length:Int))then
   av (idx s1 x1) fun e1=>
   if e1.name==name1 then
    some (.ok e1.value)
   else
    oV s1 name1 dL (bV (x1+1))
  else
   eO (zB 10) (fun e2=>some (.bad e2)) fun _=>
   some (.ok (ah.mk 0 false 0 ([]:Str) [] []))
def sF(s1:List aB)(name1:Str):Option (eX aF ah):=
 oV s1 name1 BIG 0
def mJ(s1:Str):Option ah:=
 some (ah.mk 3 false 0 s1 [] [])
def iZ(v1:ah)(jJ:Int):Option Bool:=
 some (v1.kind==jJ)
def eF(ok1:Bool)(e1:Int):Option (eX aF Unit):=
 if !ok1 then
  eO (zB e1) (fun e2=>some (.bad e2)) fun _=>
  some (.ok ())
 else
  some (.ok ())
def iO(s1:List Str)(v1:Str):Nat→Int→Option Int
 | 0,_=>none
 | dL+1,i1=>
  if decide (i1<(s1.length:Int))then
   av (idx s1 i1) fun e1=>
   if v1==e1 then
    some i1
   else
    iO s1 v1 dL (bV (i1+1))
  else
   some (-1)
def jr(s1:List Str)(v1:Str):Option Int:=
 iO s1 v1 BIG 0
def lC(s1:List Str):Option (List Str):=
 app [] s1
def tN(kY:ah→Option ah)(v1:ah):Nat→Int→ah→Option ah
 | 0,_,_=>none
 | dL+1,x2,bD=>
  if decide (x2<(v1.aN.length:Int))then
   av (idx v1.aN x2) fun e1=>
   av (kY e1) fun x3=>
   av (app bD.aN [x3]) fun x4=>
   tN kY v1 dL (bV (x2+1)) (ah.mk bD.kind bD.dR bD.dA bD.bR x4 bD.keys)
  else
   some bD
def zJ(kY:ah→Option ah)(v1:ah):Option ah:=
 av (lC v1.keys) fun x1=>
 tN kY v1 BIG 0 (ah.mk v1.kind v1.dR v1.dA v1.bR [] x1)
def lT:Nat→ah→Option ah
 | 0,_=>none
 | k+1,wP=>zJ (lT k) wP
def mX(wP:ah):Option ah:=lT BIG wP
def yY(v1:ah)(key1:Str):Option (ah × Bool):=
 av (jr v1.keys key1) fun i1=>
 if ((v1.kind !=5)||(decide (i1<0)))||(decide ((v1.aN.length:Int)≤i1))then
  some ((ah.mk 0 false 0 ([]:Str) [] []),false)
 else
  av (idx v1.aN i1) fun e1=>
  av (mX e1) fun x1=>
  some (x1,true)
def wT(m1 key1:ah):Option (eX aF ah):=
 av (iZ m1 5) fun x1=>
 av (
   if x1 then
    iZ key1 3
   else
    some false) fun b1=>
 eO (eF b1 9) (fun e1=>some (.bad e1)) fun _=>
 fI (yY m1 key1.bR) fun x3 ok1=>
 eO (eF ok1 8) (fun e2=>some (.bad e2)) fun _=>
 some (.ok x3)
def u7(a1 i1:ah):Option (eX aF ah):=
 av (iZ a1 4) fun x1=>
 av (
   if x1 then
    iZ i1 2
   else
    some false) fun b1=>
 if b1 then
  eO (eF ((decide (0≤i1.dA))&&(decide (i1.dA<(a1.aN.length:Int)))) 8) (fun e1=>some (.bad e1)) fun _=>
  av (idx a1.aN i1.dA) fun e2=>
  some (.ok e2)
 else
  eO (wT a1 i1) (fun e3=>some (.bad e3)) fun x3=>
  some (.ok x3)
def zC(name1:Str):Option Int:=
 if name1==([108,101,110]:Str)then
  some 1
 else
  if name1==([108,111,119,101,114]:Str)then
   some 1
  else
   if name1==([117,112,112,101,114]:Str)then
    some 1
   else
    if name1==([115,116,114,105,110,103]:Str)then
     some 1
    else
     if name1==([105,110,116]:Str)then
      some 1
     else
      if name1==([107,101,121,115]:Str)then
       some 1
      else
       if name1==([99,111,110,116,97,105,110,115]:Str)then
        some 2
       else
        if name1==([106,111,105,110]:Str)then
         some 2
        else
         if name1==([115,112,108,105,116]:Str)then
          some 2
         else
          if name1==([115,116,97,114,116,115,119,105,116,104]:Str)then
           some 2
          else
           if name1==([101,110,100,115,119,105,116,104]:Str)then
            some 2
           else
            if name1==([100,101,102,97,117,108,116]:Str)then
             some 2
            else
             some 0
def p9(n1:Int):Option ah:=
 some (ah.mk 2 false n1 ([]:Str) [] [])
def CY(l1:List ah):Option ah:=
 some (ah.mk 4 false 0 ([]:Str) l1 [])
def yL(l1:List Str):Nat→Int→ah→Option ah
 | 0,_,_=>none
 | dL+1,x1,bD=>
  if decide (x1<(l1.length:Int))then
   av (idx l1 x1) fun s1=>
   av (mJ s1) fun x2=>
   av (app bD.aN [x2]) fun x3=>
   yL l1 dL (bV (x1+1)) (ah.mk bD.kind bD.dR bD.dA bD.bR x3 bD.keys)
  else
   some bD
def zy(l1:List Str):Option ah:=
 yL l1 BIG 0 (ah.mk 4 false 0 ([]:Str) [] [])
def pX(b1:Bool):Option Str:=
 if b1 then
  some ([116,114,117,101]:Str)
 else
  some ([102,97,108,115,101]:Str)
def strconv_FormatBool(b1:Bool):Option Str:=
 pX b1
def mW(s1:Str):Nat→Int→Str→Option Str
 | 0,_,_=>none
 | dL+1,i1,b2=>
  if decide (i1<(s1.length:Int))then
   av (idx s1 i1) fun c1=>
   if ((c1.toNat:Int)==34)||((c1.toNat:Int)==92)then
    av (app b2 [92]) fun b3=>
    av (app b3 [c1]) fun b4=>
    mW s1 dL (bV (i1+1)) b4
   else
    if (c1.toNat:Int)==10 then
     av (app b2 ([92,110]:Str)) fun b5=>
     mW s1 dL (bV (i1+1)) b5
    else
     if (c1.toNat:Int)==9 then
      av (app b2 ([92,116]:Str)) fun b6=>
      mW s1 dL (bV (i1+1)) b6
     else
      if (decide (32≤(c1.toNat:Int)))&&(decide ((c1.toNat:Int)≤126))then
       av (app b2 [c1]) fun b7=>
       mW s1 dL (bV (i1+1)) b7
      else
       av (app b2 ([92,120]:Str)) fun b8=>
       av (idx ([48,49,50,51,52,53,54,55,56,57,97,98,99,100,101,102]:Str) ((c1/16).toNat:Int)) fun x1=>
       av (app b8 [x1]) fun b9=>
       av (idx ([48,49,50,51,52,53,54,55,56,57,97,98,99,100,101,102]:Str) ((c1%16).toNat:Int)) fun x2=>
       av (app b9 [x2]) fun b10=>
       mW s1 dL (bV (i1+1)) b10
  else
   app b2 [34]
def zX(s1:Str):Option Str:=
 av (app [] [34]) fun b1=>
 mW s1 BIG 0 b1
def strings_Join(l1:List Str)(t1:Str):Option Str:=
 if l1.length≤140737488355328∧(nT l1 t1).length≤140737488355328 then some (nT l1 t1)else none
def qD(fE:ah→Option Str)(v1:ah):Nat→List Str→Int→Option Str
 | 0,_,_=>none
 | dL+1,Ay,i1=>
  if decide (i1<(v1.aN.length:Int))then
   av (idx v1.aN i1) fun e1=>
   if v1.kind==5 then
    av (idx v1.keys i1) fun e2=>
    av (zX e2) fun x4=>
    av (app x4 ([58,32]:Str)) fun x5=>
    av (fE e1) fun x6=>
    av (app x5 x6) fun x7=>
    av (app Ay ([x7]:List Str)) fun aaI=>
    qD fE v1 dL aaI (bV (i1+1))
   else
    av (fE e1) fun x8=>
    av (app Ay ([x8]:List Str)) fun aaH=>
    qD fE v1 dL aaH (bV (i1+1))
  else
   av (strings_Join Ay ([44,32]:Str)) fun s3=>
   if v1.kind==5 then
    av (app ([123]:Str) s3) fun x9=>
    app x9 ([125]:Str)
   else
    av (app ([91]:Str) s3) fun La=>
    app La ([93]:Str)
def uQ(fE:ah→Option Str)(v1:ah):Nat→List Str→Int→Option Str
 | 0,_,_=>none
 | Y0+1,Er,i2=>
  if decide (i2<(v1.aN.length:Int))then
   av (idx v1.aN i2) fun e3=>
   av (idx v1.keys i2) fun e4=>
   av (zX e4) fun OY=>
   av (app OY ([58,32]:Str)) fun UQ=>
   av (fE e3) fun XY=>
   av (app UQ XY) fun TQ=>
   av (app Er ([TQ]:List Str)) fun aaG=>
   uQ fE v1 Y0 aaG (bV (i2+1))
  else
   av (strings_Join Er ([44,32]:Str)) fun s5=>
   av (app ([123]:Str) s5) fun XL=>
   app XL ([125]:Str)
def wB(fE:ah→Option Str)(v1:ah):Option Str:=
 if v1.kind==1 then
  strconv_FormatBool v1.dR
 else
  if v1.kind==2 then
   strconv_Itoa v1.dA
  else
   if v1.kind==3 then
    zX v1.bR
   else
    if v1.kind==4 then
     qD fE v1 BIG [] 0
    else
     if v1.kind==5 then
      uQ fE v1 BIG [] 0
     else
      some ([110,117,108,108]:Str)
def pE:Nat→ah→Option Str
 | 0,_=>none
 | k+1,wP=>wB (pE k) wP
def zI(wP:ah):Option Str:=pE BIG wP
def yX(v1:ah):Option (Str × Int):=
 if (v1.kind==4)||(v1.kind==5)then
  some (([]:Str),9)
 else
  av (kM v1) fun e1=>
  if e1 !=0 then
   some (([]:Str),e1)
  else
   if v1.kind==0 then
    some (([]:Str),0)
   else
    if v1.kind==3 then
     some (v1.bR,0)
    else
     av (zI v1) fun x1=>
     some (x1,0)
def qQ(s1:Str)(lo1 hi1:UInt8)(Ea:Int):Nat→Int→Str→Option Str
 | 0,_,_=>none
 | dL+1,i1,b1=>
  if decide (i1<(s1.length:Int))then
   av (idx s1 i1) fun x1=>
   av (
     if decide ((lo1.toNat:Int)≤(x1.toNat:Int))then
      av (idx s1 i1) fun x2=>
      some (decide ((x2.toNat:Int)≤(hi1.toNat:Int)))
     else
      some false) fun b2=>
   if b2 then
    av (idx s1 i1) fun x3=>
    av (app b1 [(Ft.byteOf (bV ((x3.toNat:Int)+Ea)))]) fun b3=>
    qQ s1 lo1 hi1 Ea dL (bV (i1+1)) b3
   else
    av (idx s1 i1) fun x4=>
    av (app b1 [x4]) fun b4=>
    qQ s1 lo1 hi1 Ea dL (bV (i1+1)) b4
  else
   some b1
def xE(s1:Str)(lo1 hi1:UInt8)(Ea:Int):Option Str:=
 qQ s1 lo1 hi1 Ea BIG 0 []
def uE(s1:Str):Option (Int × Bool):=
 fI (strconv_Atoi s1) fun n1 Sq=>
 av (
   if Sq.isSome then
    some true
   else
    av (strconv_Itoa n1) fun x1=>
    some (!(x1==s1))) fun b1=>
 if (b1||(decide (n1<(-9007199254740992))))||(decide (9007199254740992<n1))then
  some (0,false)
 else
  some (n1,true)
def IL(name1:Str)(v1:ah):Option (eX aF ah):=
 if name1==([108,101,110]:Str)then
  av (iZ v1 3) fun x1=>
  av (
    if x1 then
     some true
    else
     iZ v1 4) fun b1=>
  av (
    if b1 then
     some true
    else
     iZ v1 5) fun b2=>
  eO (eF b2 9) (fun e1=>some (.bad e1)) fun _=>
  av (p9 (bV ((v1.bR.length:Int)+(v1.aN.length:Int)))) fun x4=>
  some (.ok x4)
 else
  if name1==([107,101,121,115]:Str)then
   av (iZ v1 5) fun x5=>
   eO (eF x5 9) (fun e2=>some (.bad e2)) fun _=>
   av (zy v1.keys) fun x6=>
   some (.ok x6)
  else
   if name1==([115,116,114,105,110,103]:Str)then
    fI (yX v1) fun t1 e3=>
    eO (eF (e3==0) e3) (fun e4=>some (.bad e4)) fun _=>
    av (mJ t1) fun x7=>
    some (.ok x7)
   else
    av (iZ v1 3) fun x8=>
    eO (eF x8 9) (fun e5=>some (.bad e5)) fun _=>
    if name1==([108,111,119,101,114]:Str)then
     av (xE v1.bR 65 90 32) fun x9=>
     av (mJ x9) fun EB=>
     some (.ok EB)
    else
     if name1==([117,112,112,101,114]:Str)then
      av (xE v1.bR 97 122 (-32)) fun La=>
      av (mJ La) fun Qf=>
      some (.ok Qf)
     else
      fI (uE v1.bR) fun n1 ok1=>
      eO (eF ok1 1) (fun e6=>some (.bad e6)) fun _=>
      av (p9 n1) fun OY=>
      some (.ok OY)
def tL(b1:Bool):Option Int:=
 if b1 then
  some 1
 else
  some 0
def dB(wR zh:List ah)(I4:ah→ah→Option Int):Nat→Int→Option Int
 | 0,_=>none
 | dL+1,i1=>
  if decide (i1<(wR.length:Int))then
   av (idx wR i1) fun e1=>
   if decide ((zh.length:Int)≤i1)then
    some 1
   else
    av (idx zh i1) fun e2=>
    av (I4 e1 e2) fun c1=>
    if c1 !=0 then
     some c1
    else
     dB wR zh I4 dL (bV (i1+1))
  else
   if decide ((wR.length:Int)<(zh.length:Int))then
    some (-1)
   else
    some 0
def cu(wR zh:List ah)(I4:ah→ah→Option Int):Option Int:=
 dB wR zh I4 BIG 0
def eB(wR zh:List Str)(I4:Str→Str→Option Int):Nat→Int→Option Int
 | 0,_=>none
 | dL+1,i1=>
  if decide (i1<(wR.length:Int))then
   av (idx wR i1) fun alv=>
   if decide ((zh.length:Int)≤i1)then
    some 1
   else
    av (idx zh i1) fun alu=>
    av (I4 alv alu) fun c1=>
    if c1 !=0 then
     some c1
    else
     eB wR zh I4 dL (bV (i1+1))
  else
   if decide ((wR.length:Int)<(zh.length:Int))then
    some (-1)
   else
    some 0
def eT(wR zh:List Str)(I4:Str→Str→Option Int):Option Int:=
 eB wR zh I4 BIG 0
def wC(kH:ah→ah→Option Int)(a1 b1:ah):Option Int:=
 av (cmp_Compare_int a1.kind b1.kind) fun c1=>
 if c1 !=0 then
  some c1
 else
  if a1.kind==1 then
   av (tL a1.dR) fun x1=>
   av (tL b1.dR) fun x2=>
   cmp_Compare_int x1 x2
  else
   if a1.kind==2 then
    cmp_Compare_int a1.dA b1.dA
   else
    if a1.kind==3 then
     mK a1.bR b1.bR
    else
     if a1.kind==4 then
      cu a1.aN b1.aN kH
     else
      if a1.kind==5 then
       av (eT a1.keys b1.keys jC) fun c2=>
       if c2 !=0 then
        some c2
       else
        cu a1.aN b1.aN kH
      else
       some 0
def jq:Nat→ah→ah→Option Int
 | 0,_,_=>none
 | k+1,Hg,Hf=>wC (jq k) Hg Hf
def vP(Hg Hf:ah):Option Int:=jq BIG Hg Hf
def mY(a1 b1:ah):Option Bool:=
 av (vP a1 b1) fun x1=>
 some (x1==0)
def pG(a1 b1:ah)(GY:Int):Option Bool:=
 some ((a1.kind==GY)&&(b1.kind==GY))
def strings_Contains(s1 t1:Str):Option Bool:=
 if s1.length<4294967281 then some (mo s1 t1).isSome else none
def oJ(a1 b1:ah):Nat→Int→Option (eX aF Bool)
 | 0,_=>none
 | dL+1,x2=>
  if decide (x2<(a1.aN.length:Int))then
   av (idx a1.aN x2) fun e1=>
   av (mY e1 b1) fun x3=>
   if x3 then
    some (.ok true)
   else
    oJ a1 b1 dL (bV (x2+1))
  else
   some (.ok false)
def wh(a1 b1:ah):Option (eX aF Bool):=
 av (iZ a1 4) fun x1=>
 if x1 then
  oJ a1 b1 BIG 0
 else
  av (pG a1 b1 3) fun x4=>
  if x4 then
   av (strings_Contains a1.bR b1.bR) fun x5=>
   some (.ok x5)
  else
   av (iZ a1 5) fun x6=>
   av (
     if x6 then
      iZ b1 3
     else
      some false) fun b2=>
   eO (eF b2 9) (fun e2=>some (.bad e2)) fun _=>
   fI (yY a1 b1.bR) fun x8 ok1=>
   some (.ok ok1)
def fK(b1:Bool):Option ah:=
 some (ah.mk 1 b1 0 ([]:Str) [] [])
def uF(a1 b1:ah):Nat→Int→List Str→Int→Option (eX aF ah)
 | 0,_,_,_=>none
 | dL+1,n1,l1,x3=>
  if decide (x3<(a1.aN.length:Int))then
   av (idx a1.aN x3) fun e2=>
   av (iZ e2 3) fun x4=>
   eO (eF x4 9) (fun e3=>some (.bad e3)) fun _=>
   av (app l1 ([e2.bR]:List Str)) fun l2=>
   uF a1 b1 dL (bV (n1+(e2.bR.length:Int))) l2 (bV (x3+1))
  else
   eO (eF (decide ((bV (n1+(bV ((b1.bR.length:Int)*(if 0<(bV ((l1.length:Int)-1))then (bV ((l1.length:Int)-1))else 0)))))≤4096)) 3) (fun e4=>some (.bad e4)) fun _=>
   av (strings_Join l1 b1.bR) fun x5=>
   av (mJ x5) fun x6=>
   some (.ok x6)
def Al(a1 b1:ah):Option (eX aF ah):=
 av (iZ a1 4) fun x1=>
 av (
   if x1 then
    iZ b1 3
   else
    some false) fun b2=>
 eO (eF b2 9) (fun e1=>some (.bad e1)) fun _=>
 uF a1 b1 BIG 0 [] 0
def qO(s1 xP:Str):Option Bool:=
 if decide ((xP.length:Int)≤(s1.length:Int))then
  av (sl s1 (bV ((s1.length:Int)-(xP.length:Int))) (s1.length:Int)) fun x1=>
  some (x1==xP)
 else
  some false
def strings_HasSuffix(s1 xP:Str):Option Bool:=
 qO s1 xP
def strings_Split(s1 t1:Str):Option (List Str):=
 if s1.length<4294967281∧t1≠[]then some (nZ t1 (s1.length+1) s1)else none
def IK(name1:Str)(a1 b1:ah):Option (eX aF ah):=
 if name1==([100,101,102,97,117,108,116]:Str)then
  av (iZ a1 0) fun x1=>
  if x1 then
   some (.ok b1)
  else
   some (.ok a1)
 else
  if name1==([99,111,110,116,97,105,110,115]:Str)then
   eO (wh a1 b1) (fun e1=>some (.bad e1)) fun x2=>
   av (fK x2) fun x3=>
   some (.ok x3)
  else
   if name1==([106,111,105,110]:Str)then
    eO (Al a1 b1) (fun e2=>some (.bad e2)) fun x4=>
    some (.ok x4)
   else
    av (pG a1 b1 3) fun x5=>
    eO (eF x5 9) (fun e3=>some (.bad e3)) fun _=>
    if name1==([115,116,97,114,116,115,119,105,116,104]:Str)then
     av (strings_HasPrefix a1.bR b1.bR) fun x6=>
     av (fK x6) fun x7=>
     some (.ok x7)
    else
     if name1==([101,110,100,115,119,105,116,104]:Str)then
      av (strings_HasSuffix a1.bR b1.bR) fun x8=>
      av (fK x8) fun x9=>
      some (.ok x9)
     else
      eO (eF (!(b1.bR==([]:Str))) 1) (fun e4=>some (.bad e4)) fun _=>
      av (strings_Split a1.bR b1.bR) fun l1=>
      eO (eF (decide ((l1.length:Int)≤1024)) 3) (fun e5=>some (.bad e5)) fun _=>
      av (zy l1) fun EB=>
      some (.ok EB)
def uD(v1:ah):Option (eX aF Bool):=
 av (iZ v1 1) fun x1=>
 eO (eF x1 9) (fun e1=>some (.bad e1)) fun _=>
 some (.ok v1.dR)
def CX(op1:Str)(v1:ah):Option (eX aF ah):=
 if op1==([33]:Str)then
  eO (uD v1) (fun e1=>some (.bad e1)) fun x1=>
  av (fK (!x1)) fun x2=>
  some (.ok x2)
 else
  av (iZ v1 2) fun x3=>
  eO (eF x3 9) (fun e2=>some (.bad e2)) fun _=>
  av (p9 (bV (0-v1.dA))) fun x4=>
  some (.ok x4)
def nP(a1 b1:ah):Option (eX aF Int):=
 av (pG a1 b1 2) fun x1=>
 av (
   if x1 then
    some true
   else
    pG a1 b1 3) fun b2=>
 eO (eF b2 9) (fun e1=>some (.bad e1)) fun _=>
 av (vP a1 b1) fun x3=>
 some (.ok x3)
def ru(n1:Int):Option (eX aF ah):=
 eO (eF ((decide ((-9007199254740992)≤n1))&&(decide (n1≤9007199254740992))) 11) (fun e1=>some (.bad e1)) fun _=>
 av (p9 n1) fun x1=>
 some (.ok x1)
def ET(a1 b1:ah):Option (eX aF ah):=
 av (pG a1 b1 2) fun x1=>
 if x1 then
  eO (ru (bV (a1.dA+b1.dA))) (fun e1=>some (.bad e1)) fun x2=>
  some (.ok x2)
 else
  av (pG a1 b1 3) fun x3=>
  if x3 then
   eO (eF (decide ((bV ((a1.bR.length:Int)+(b1.bR.length:Int)))≤4096)) 3) (fun e2=>some (.bad e2)) fun _=>
   av (app a1.bR b1.bR) fun x4=>
   av (mJ x4) fun x5=>
   some (.ok x5)
  else
   av (pG a1 b1 4) fun x6=>
   eO (eF x6 9) (fun e3=>some (.bad e3)) fun _=>
   eO (eF (decide ((bV ((a1.aN.length:Int)+(b1.aN.length:Int)))≤1024)) 3) (fun e4=>some (.bad e4)) fun _=>
   av (app [] a1.aN) fun l1=>
   av (app l1 b1.aN) fun x7=>
   av (CY x7) fun x8=>
   some (.ok x8)
def Il(n1:Int):Option (BitVec 64):=
 if decide (n1<0)then
  some (-(BitVec.ofInt 64 n1))
 else
  some (BitVec.ofInt 64 n1)
def Bu(a1 b1:Int):Option jo:=
 av (Il a1) fun x1=>
 av (Il b1) fun y1=>
 av (some ((x1 &&& (4294967295:BitVec 64))*(y1 &&& (4294967295:BitVec 64)))) fun JX=>
 av (some ((x1 >>> 32)*(y1 &&& (4294967295:BitVec 64)))) fun x2=>
 av (some ((x1 &&& (4294967295:BitVec 64))*(y1 >>> 32))) fun x3=>
 av (some ((x2+(JX >>> 32)) &&& (4294967295:BitVec 64))) fun x4=>
 av (some (((x1 >>> 32)*(y1 >>> 32))+((x2+(JX >>> 32)) >>> 32))) fun x5=>
 av (some (((x3+x4) <<< 32) ||| (JX &&& (4294967295:BitVec 64)))) fun x6=>
 some (jo.mk ([(x5+((x3+x4) >>> 32)),x6]:List (BitVec 64)) ((!((decide (a1<0))==(decide (b1<0))))&&(!decide (([((x5+((x3+x4) >>> 32)).toNat:Int),(x6.toNat:Int)]:List Int)=([0,0]:List Int)))))
def rH(p1:jo):Option (Int × Bool):=
 if ((p1.half.getD 0 0).toNat:Int) !=0 then
  some (0,false)
 else
  if p1.neg&&(decide (((p1.half.getD 1 0).toNat:Int)≤9223372036854775808))then
   some ((bV ((-(p1.half.getD 1 0)).toNat:Int)),true)
  else
   if (!p1.neg)&&(decide (((p1.half.getD 1 0).toNat:Int)≤9223372036854775807))then
    some ((bV ((p1.half.getD 1 0).toNat:Int)),true)
   else
    some (0,false)
def WW(aib:Bool):Option Int:=
 if aib then
  some (-9223372036854775808)
 else
  some 9223372036854775807
def L8(a1 b1:Int):Option Int:=
 av (Bu a1 b1) fun x1=>
 fI (rH x1) fun n1 ok1=>
 if ok1 then
  some n1
 else
  WW x1.neg
def pI(op1:Str)(a1 b1:ah):Option (eX aF ah):=
 av (pG a1 b1 2) fun x1=>
 eO (eF x1 9) (fun e1=>some (.bad e1)) fun _=>
 if op1==([45]:Str)then
  eO (ru (bV (a1.dA-b1.dA))) (fun e2=>some (.bad e2)) fun x2=>
  some (.ok x2)
 else
  if op1==([42]:Str)then
   av (L8 a1.dA b1.dA) fun x3=>
   eO (ru x3) (fun e3=>some (.bad e3)) fun x4=>
   some (.ok x4)
  else
   eO (eF (b1.dA !=0) 12) (fun e4=>some (.bad e4)) fun _=>
   if op1==([47]:Str)then
    av (chk (!(b1.dA==0))) fun _=>
    eO (ru (bV ((a1.dA:Int).tdiv b1.dA))) (fun e5=>some (.bad e5)) fun x5=>
    some (.ok x5)
   else
    av (chk (!(b1.dA==0))) fun _=>
    av (p9 ((a1.dA:Int).tmod b1.dA)) fun x6=>
    some (.ok x6)
def rY(b_:Int)(x1:ah):Int:=if (x1.kind==4||x1.kind==5)&&((x1.aN.length:Int)==0)then bV (b_+1)else b_
def iH(aje b_:Int)(x1:ah):Option (Bool × Int):=
 some (true,if aje<rY b_ x1 then rY b_ x1 else aje)
def xM(v1:ah):Option Int:=
 fI (Cr iH 0 v1 1) fun _ s1=>
 some s1
def mO(y1 c1:aB):Option Bool:=
 some (y1.name==c1.name)
def gL(s1:List aB)(f1:aB→Option Bool):Nat→Int→Option Int
 | 0,_=>none
 | dL+1,i1=>
  if decide (i1<(s1.length:Int))then
   av (idx s1 i1) fun e1=>
   av (f1 e1) fun x1=>
   if x1 then
    some i1
   else
    gL s1 f1 dL (bV (i1+1))
  else
   some (-1)
def jl(s1:List aB)(f1:aB→Option Bool):Option Int:=
 gL s1 f1 BIG 0
def gM(s1:List aB)(f1:aB→Option Bool):Option Bool:=
 av (jl s1 f1) fun x1=>
 some (decide (0≤x1))
def zZ(gu:List aB)(i1:Int):Option Int:=
 av (idx gu i1) fun e1=>
 if (decide ((e1.name.length:Int)<1))||(decide (64<(e1.name.length:Int)))then
  some 1
 else
  av (kM e1.value) fun e2=>
  if e2 !=0 then
   some e2
  else
   av (xM e1.value) fun x1=>
   if decide (16≤x1)then
    some 13
   else
    av (sl gu 0 i1) fun x2=>
    av (gM x2 (fun z0=>mO z0 e1)) fun x3=>
    if x3 then
     some 7
    else
     some 0
def gD(s1:List aB):Option (List aB):=
 app [] s1
def Oo(a1 b1:aB):Option Int:=
 jC a1.name b1.name
def uR(sO:List aB):Nat→Int→ah→Option (ah × Int)
 | 0,_,_=>none
 | Y0+1,x1,bD=>
  if decide (x1<(sO.length:Int))then
   av (idx sO x1) fun e2=>
   av (app bD.keys ([e2.name]:List Str)) fun x2=>
   av (mX e2.value) fun x3=>
   av (app bD.aN [x3]) fun x4=>
   uR sO Y0 (bV (x1+1)) (ah.mk bD.kind bD.dR bD.dA bD.bR x4 x2)
  else
   some (bD,0)
def uS(gu:List aB):Nat→Int→Option (ah × Int)
 | 0,_=>none
 | dL+1,i1=>
  if decide (i1<(gu.length:Int))then
   av (zZ gu i1) fun e1=>
   if e1 !=0 then
    some ((ah.mk 0 false 0 ([]:Str) [] []),e1)
   else
    uS gu dL (bV (i1+1))
  else
   av (gD gu) fun PE=>
   av (U8 (fun x=>x.name) PE) fun sO=>
   uR sO BIG 0 (ah.mk 5 false 0 ([]:Str) [] [])
def B_(gu:List aB):Option (ah × Int):=
 if decide (1024<(gu.length:Int))then
  some ((ah.mk 0 false 0 ([]:Str) [] []),3)
 else
  uS gu BIG 0
def sS(bE dG:List aB→ak→Option (eX aF ah))(dF:List aB→List ak→Option (eX aF (List ah)))(cO bY:List aB→ak→Option (eX aF ah))(s1:List aB)(e1:ak):Option (eX aF ah):=
 if e1.kind==1 then
  some (.ok e1.value)
 else
  if e1.kind==2 then
   eO (sF s1 e1.name) (fun e2=>some (.bad e2)) fun x1=>
   some (.ok x1)
  else
   if e1.kind==3 then
    av (idx e1.args 0) fun e3=>
    eO (bE s1 e3) (fun e4=>some (.bad e4)) fun x2=>
    av (mJ e1.name) fun x3=>
    eO (wT x2 x3) (fun e5=>some (.bad e5)) fun x4=>
    some (.ok x4)
   else
    if e1.kind==4 then
     av (idx e1.args 0) fun e6=>
     eO (bE s1 e6) (fun e7=>some (.bad e7)) fun x5=>
     av (idx e1.args 1) fun e8=>
     eO (bE s1 e8) (fun e9=>some (.bad e9)) fun x6=>
     eO (u7 x5 x6) (fun e10=>some (.bad e10)) fun x7=>
     some (.ok x7)
    else
     if e1.kind==5 then
      eO (dG s1 e1) (fun e11=>some (.bad e11)) fun x8=>
      some (.ok x8)
     else
      if e1.kind==6 then
       av (idx e1.args 0) fun e12=>
       eO (bE s1 e12) (fun e13=>some (.bad e13)) fun x9=>
       eO (CX e1.name x9) (fun e14=>some (.bad e14)) fun EB=>
       some (.ok EB)
      else
       if e1.kind==7 then
        eO (cO s1 e1) (fun e15=>some (.bad e15)) fun La=>
        some (.ok La)
       else
        if e1.kind==8 then
         av (idx e1.args 0) fun e16=>
         eO (bE s1 e16) (fun e17=>some (.bad e17)) fun Qf=>
         eO (uD Qf) (fun e18=>some (.bad e18)) fun OY=>
         if OY then
          av (idx e1.args 1) fun e19=>
          eO (bE s1 e19) (fun e20=>some (.bad e20)) fun UQ=>
          some (.ok UQ)
         else
          av (idx e1.args 2) fun e21=>
          eO (bE s1 e21) (fun e22=>some (.bad e22)) fun XY=>
          some (.ok XY)
        else
         if e1.kind==9 then
          eO (dF s1 e1.args) (fun e23=>some (.bad e23)) fun TQ=>
          av (CY TQ) fun XL=>
          av (kM XL) fun x18=>
          eO (eF (x18==0) 13) (fun e24=>some (.bad e24)) fun _=>
          some (.ok XL)
         else
          eO (bY s1 e1) (fun e25=>some (.bad e25)) fun x19=>
          some (.ok x19)
def pY(bE dG:List aB→ak→Option (eX aF ah))(dF:List aB→List ak→Option (eX aF (List ah)))(cO bY:List aB→ak→Option (eX aF ah))(s1:List aB)(e1:ak):Option (eX aF ah):=
 av (zC e1.name) fun n1=>
 eO (eF (decide (0<n1)) 10) (fun e2=>some (.bad e2)) fun _=>
 eO (eF ((e1.args.length:Int)==n1) 1) (fun e3=>some (.bad e3)) fun _=>
 eO (dF s1 e1.args) (fun e4=>some (.bad e4)) fun args1=>
 if n1==1 then
  av (idx args1 0) fun e5=>
  eO (IL e1.name e5) (fun e6=>some (.bad e6)) fun x1=>
  some (.ok x1)
 else
  av (idx args1 0) fun e7=>
  av (idx args1 1) fun e8=>
  eO (IK e1.name e7 e8) (fun e9=>some (.bad e9)) fun x2=>
  some (.ok x2)
def nC(bE:List aB→ak→Option (eX aF ah))(s1:List aB)(l1:List ak):Nat→List ah→Int→Option (eX aF (List ah))
 | 0,_,_=>none
 | dL+1,bD,x1=>
  if decide (x1<(l1.length:Int))then
   av (idx l1 x1) fun e1=>
   eO (bE s1 e1) (fun e2=>some (.bad e2)) fun x2=>
   av (app bD [x2]) fun xI=>
   nC bE s1 l1 dL xI (bV (x1+1))
  else
   some (.ok bD)
def zA(bE dG:List aB→ak→Option (eX aF ah))(dF:List aB→List ak→Option (eX aF (List ah)))(cO bY:List aB→ak→Option (eX aF ah))(s1:List aB)(l1:List ak):Option (eX aF (List ah)):=
 nC bE s1 l1 BIG [] 0
def nV(bE dG:List aB→ak→Option (eX aF ah))(dF:List aB→List ak→Option (eX aF (List ah)))(cO bY:List aB→ak→Option (eX aF ah))(s1:List aB)(e1:ak):Option (eX aF ah):=
 av (idx e1.args 0) fun e2=>
 eO (bE s1 e2) (fun e3=>some (.bad e3)) fun x1=>
 if (e1.name==([38,38]:Str))||(e1.name==([124,124]:Str))then
  eO (uD x1) (fun e4=>some (.bad e4)) fun x2=>
  if x2==(e1.name==([124,124]:Str))then
   some (.ok x1)
  else
   av (idx e1.args 1) fun e5=>
   eO (bE s1 e5) (fun e6=>some (.bad e6)) fun x3=>
   eO (uD x3) (fun e7=>some (.bad e7)) fun x4=>
   av (fK x4) fun x5=>
   some (.ok x5)
 else
  av (idx e1.args 1) fun e8=>
  eO (bE s1 e8) (fun e9=>some (.bad e9)) fun x6=>
  if e1.name==([61,61]:Str)then
   av (mY x1 x6) fun x7=>
   av (fK x7) fun x8=>
   some (.ok x8)
  else
   if e1.name==([33,61]:Str)then
    av (mY x1 x6) fun x9=>
    av (fK (!x9)) fun EB=>
    some (.ok EB)
   else
    if e1.name==([60]:Str)then
     eO (nP x1 x6) (fun e10=>some (.bad e10)) fun La=>
     av (fK (decide (La<0))) fun Qf=>
     some (.ok Qf)
    else
     if e1.name==([60,61]:Str)then
      eO (nP x1 x6) (fun e11=>some (.bad e11)) fun OY=>
      av (fK (decide (OY≤0))) fun UQ=>
      some (.ok UQ)
     else
      if e1.name==([62]:Str)then
       eO (nP x1 x6) (fun e12=>some (.bad e12)) fun XY=>
       av (fK (decide (0<XY))) fun TQ=>
       some (.ok TQ)
      else
       if e1.name==([62,61]:Str)then
        eO (nP x1 x6) (fun e13=>some (.bad e13)) fun XL=>
        av (fK (decide (0≤XL))) fun x18=>
        some (.ok x18)
       else
        if e1.name==([43]:Str)then
         eO (ET x1 x6) (fun e14=>some (.bad e14)) fun x19=>
         some (.ok x19)
        else
         eO (pI e1.name x1 x6) (fun e15=>some (.bad e15)) fun x20=>
         some (.ok x20)
def mG(e1:ak)(x1:List ah):Nat→List aB→Int→Option (eX aF ah)
 | 0,_,_=>none
 | dL+1,gu,i1=>
  if decide (i1<(x1.length:Int))then
   av (idx x1 i1) fun e3=>
   av (idx e1.keys i1) fun e4=>
   av (app gu [(aB.mk e4 e3)]) fun EF=>
   mG e1 x1 dL EF (bV (i1+1))
  else
   fI (B_ gu) fun x2 mI=>
   eO (eF (mI==0) mI) (fun e5=>some (.bad e5)) fun _=>
   some (.ok x2)
def m_(bE dG:List aB→ak→Option (eX aF ah))(dF:List aB→List ak→Option (eX aF (List ah)))(cO bY:List aB→ak→Option (eX aF ah))(s1:List aB)(e1:ak):Option (eX aF ah):=
 eO (dF s1 e1.args) (fun e2=>some (.bad e2)) fun x1=>
 mG e1 x1 BIG [] 0
mutual
def dJ:Nat→List aB→ak→Option (eX aF ah)
 | 0,_,_=>none
 | k+1,rZ,kS=>sS (dJ k) (fA k) (fG k) (eD k) (dX k) rZ kS
def fA:Nat→List aB→ak→Option (eX aF ah)
 | 0,_,_=>none
 | k+1,rZ,kS=>pY (dJ k) (fA k) (fG k) (eD k) (dX k) rZ kS
def fG:Nat→List aB→List ak→Option (eX aF (List ah))
 | 0,_,_=>none
 | k+1,rZ,O4=>zA (dJ k) (fA k) (fG k) (eD k) (dX k) rZ O4
def eD:Nat→List aB→ak→Option (eX aF ah)
 | 0,_,_=>none
 | k+1,rZ,kS=>nV (dJ k) (fA k) (fG k) (eD k) (dX k) rZ kS
def dX:Nat→List aB→ak→Option (eX aF ah)
 | 0,_,_=>none
 | k+1,rZ,kS=>m_ (dJ k) (fA k) (fG k) (eD k) (dX k) rZ kS
end
def AA(rZ:List aB)(kS:ak):Option (eX aF ah):=dJ BIG rZ kS
def Ph(rZ:List aB)(kS:ak):Option (eX aF ah):=fA BIG rZ kS
def Sn(rZ:List aB)(O4:List ak):Option (eX aF (List ah)):=fG BIG rZ O4
def Mr(rZ:List aB)(kS:ak):Option (eX aF ah):=eD BIG rZ kS
def KV(rZ:List aB)(kS:ak):Option (eX aF ah):=dX BIG rZ kS
def yM(s1:List aB)(e1:ak):Option (ah × Int):=
 eO (AA s1 e1) (fun f1=>some ((ah.mk 0 false 0 ([]:Str) [] []),f1.code)) fun v1=>
 some (v1,0)
def wo(lV:ah→Option ah)(v1:ah):Nat→Int→ah→Option ah
 | 0,_,_=>none
 | dL+1,x1,bD=>
  if decide (x1<(v1.aN.length:Int))then
   av (idx v1.aN x1) fun e1=>
   av (lV e1) fun x2=>
   av (app bD.aN [x2]) fun x3=>
   wo lV v1 dL (bV (x1+1)) (ah.mk bD.kind bD.dR bD.dA bD.bR x3 bD.keys)
  else
   av (app bD.keys v1.keys) fun x4=>
   some (ah.mk bD.kind bD.dR bD.dA bD.bR bD.aN x4)
def BK(lV:ah→Option ah)(v1:ah):Option ah:=
 wo lV v1 BIG 0 (ah.mk v1.kind v1.dR v1.dA v1.bR [] [])
def mU:Nat→ah→Option ah
 | 0,_=>none
 | k+1,wP=>BK (mU k) wP
def wU(wP:ah):Option ah:=mU BIG wP
def Cj(e1:ak)(eY:List aB):Option (ah × Int):=
 fI (DZ e1 eY) fun s1 f1=>
 if f1 !=0 then
  some ((ah.mk 0 false 0 ([]:Str) [] []),f1)
 else
  fI (yM s1 e1) fun x1 f2=>
  av (wU x1) fun x2=>
  some (x2,f2)
def pF(p1:aY)(eY:List aB):Option (Str × Int):=
 if !p1.Z0 then
  some (p1.text,0)
 else
  fI (Cj p1.expr eY) fun x1 mI=>
  if mI !=0 then
   some (([]:Str),mI)
  else
   yX x1
def iG(eY:List aB)(ps1:List aY):Nat→Int→Str→Option (Str × Int)
 | 0,_,_=>none
 | dL+1,x2,b1=>
  if decide (x2<(ps1.length:Int))then
   av (idx ps1 x2) fun e1=>
   fI (pF e1 eY) fun t1 acA=>
   if acA !=0 then
    some (([]:Str),acA)
   else
    av (app b1 t1) fun b2=>
    iG eY ps1 dL (bV (x2+1)) b2
  else
   if decide (4096<(b1.length:Int))then
    some (([]:Str),3)
   else
    some (b1,0)
def fU(s1:Str)(eY:List aB):Option (Str × Int):=
 Au (lF s1) fun ps1 x1 mI=>
 if mI !=0 then
  some (([]:Str),mI)
 else
  av (CZ eY) fun Db=>
  if Db !=0 then
   some (([]:Str),Db)
  else
   iG eY ps1 BIG 0 []
def mF{β:Type}(y:β→ak→Option (Bool × β))(ps1:List aY):Nat→β→Int→Option β
 | 0,_,_=>none
 | dL+1,s1,i1=>
  if decide (i1<(ps1.length:Int))then
   av (idx ps1 i1) fun p1=>
   if p1.Z0 then
    fI (y s1 p1.expr) fun b1 s2=>
    if !b1 then
     some s2
    else
     mF y ps1 dL s2 (bV (i1+1))
   else
    mF y ps1 dL s1 (bV (i1+1))
  else
   some s1
def rO{β:Type}(y:β→ak→Option (Bool × β))(s1:β)(ps1:List aY):Option β:=mF y ps1 BIG s1 0
def FV(Ip:List Str):Option (List Str):=
 if (Ip.all fun s=>decide (s.length<4611686018427387904))&&decide (Ip.length≤sI)then some (afO Ip)else none
def oK(go:ak→List Str→Option (List Str))(e1:ak):Nat→List Str→Int→Option (List Str)
 | 0,_,_=>none
 | dL+1,bD,i1=>
  if decide (i1<(e1.args.length:Int))then
   av (idx e1.args i1) fun a1=>
   av (go a1 bD) fun xI=>
   oK go e1 dL xI (bV (i1+1))
  else
   some bD
def AJ(go:ak→List Str→Option (List Str))(e1:ak)(bD:List Str):Option (List Str):=
 if e1.kind==2 then
  av (app bD [e1.name]) fun xI=>
  oK go e1 BIG xI 0
 else
  oK go e1 BIG bD 0
def wI:Nat→ak→List Str→Option (List Str)
 | 0,_,_=>none
 | k+1,e1,bD=>AJ (wI k) e1 bD
def I7(e1:ak):Option (List Str):=
 av (wI BIG e1 []) fun bD=>
 FV bD
def yD(a1:List ak)(x1:ak):Option (Bool × List ak):=
 av (app a1 [x1]) fun a2=>
 some (true,a2)
def FU(s1:Str):Option (List Str × Int):=
 Au (lF s1) fun ps1 _ mI=>
 if mI !=0 then
  some ([],mI)
 else
  av (rO yD [] ps1) fun a1=>
  av (I7 (ak.mk 9 ([]:Str) (ah.mk 0 false 0 ([]:Str) [] []) a1 [])) fun x1=>
  some (x1,0)
def Kz(v1:ah):Option Str:=
 av (kM v1) fun x1=>
 if x1 !=0 then
  some ([]:Str)
 else
  zI v1
def FI(e1:ak):Option Int:=
 if e1.kind==8 then
  some 1
 else
  if e1.kind==7 then
   fO e1.name
  else
   if e1.kind==6 then
    some 7
   else
    if ((e1.kind==1)&&(e1.value.kind==2))&&(decide (e1.value.dA<0))then
     some 7
    else
     some 8
def Az(iU:ak→Option Str)(fV:ak→Int→Option Str)(e1:ak):Option Str:=
 if e1.kind==1 then
  Kz e1.value
 else
  if e1.kind==2 then
   some e1.name
  else
   if e1.kind==3 then
    av (idx e1.args 0) fun e2=>
    av (fV e2 8) fun x2=>
    av (app x2 ([46]:Str)) fun x3=>
    app x3 e1.name
   else
    if e1.kind==4 then
     av (idx e1.args 0) fun e3=>
     av (fV e3 8) fun x5=>
     av (app x5 ([91]:Str)) fun x6=>
     av (idx e1.args 1) fun e4=>
     av (fV e4 1) fun x7=>
     av (app x6 x7) fun x8=>
     app x8 ([93]:Str)
    else
     if e1.kind==5 then
      none
     else
      if e1.kind==6 then
       av (idx e1.args 0) fun e5=>
       av (fV e5 7) fun EB=>
       app e1.name EB
      else
       if e1.kind==7 then
        av (fO e1.name) fun n1=>
        if n1==4 then
         av (idx e1.args 0) fun e6=>
         av (fV e6 (bV (n1+1))) fun Qf=>
         av (app Qf ([32]:Str)) fun OY=>
         av (app OY e1.name) fun UQ=>
         av (app UQ ([32]:Str)) fun XY=>
         av (idx e1.args 1) fun e7=>
         av (fV e7 (bV (n1+1))) fun TQ=>
         app XY TQ
        else
         av (idx e1.args 0) fun e8=>
         av (fV e8 n1) fun x18=>
         av (app x18 ([32]:Str)) fun x19=>
         av (app x19 e1.name) fun x20=>
         av (app x20 ([32]:Str)) fun x21=>
         av (idx e1.args 1) fun e9=>
         av (fV e9 (bV (n1+1))) fun x22=>
         app x21 x22
       else
        if e1.kind==8 then
         av (idx e1.args 0) fun e10=>
         av (fV e10 2) fun x24=>
         av (app x24 ([32,63,32]:Str)) fun x25=>
         av (idx e1.args 1) fun e11=>
         av (fV e11 1) fun x26=>
         av (app x25 x26) fun x27=>
         av (app x27 ([32,58,32]:Str)) fun x28=>
         av (idx e1.args 2) fun e12=>
         av (fV e12 1) fun x29=>
         app x28 x29
        else
         if e1.kind==9 then
          none
         else
          none
def FJ(iU:ak→Option Str)(fV:ak→Int→Option Str)(e1:ak)(Jw:Int):Option Str:=
 av (FI e1) fun x1=>
 if decide (x1<Jw)then
  av (iU e1) fun x2=>
  av (app ([40]:Str) x2) fun x3=>
  app x3 ([41]:Str)
 else
  iU e1
mutual
def nO:Nat→ak→Option Str
 | 0,_=>none
 | k+1,kS=>Az (nO k) (rG k) kS
def rG:Nat→ak→Int→Option Str
 | 0,_,_=>none
 | k+1,kS,nM=>FJ (nO k) (rG k) kS nM
end
def J8(kS:ak):Option Str:=nO BIG kS
def aaJ(kS:ak)(nM:Int):Option Str:=rG BIG kS nM
def Ij(e1:ak):Option Str:=
 av (kD e1) fun x1=>
 if x1 !=0 then
  some ([]:Str)
 else
  J8 e1
def strings_ReplaceAll(s1 ah_ new1:Str):Option Str:=
 if s1.length<4294967281∧ah_=[36]∧new1=[36,36]then some (s1.flatMap fun x=>if x==36 then [36,36]else [x])else none
def uo(ps1:List aY):Nat→Int→Str→Option Str
 | 0,_,_=>none
 | dL+1,x1,b1=>
  if decide (x1<(ps1.length:Int))then
   av (idx ps1 x1) fun e1=>
   if e1.Z0 then
    av (Ij e1.expr) fun x2=>
    av (app ([36,123]:Str) x2) fun x3=>
    av (app x3 ([125]:Str)) fun x4=>
    av (app b1 x4) fun b2=>
    uo ps1 dL (bV (x1+1)) b2
   else
    av (strings_ReplaceAll e1.text ([36]:Str) ([36,36]:Str)) fun x5=>
    av (app b1 x5) fun b3=>
    uo ps1 dL (bV (x1+1)) b3
  else
   some b1
def Iu(ps1:List aY):Option Str:=
 uo ps1 BIG 0 []
def w_(jJ:Int):Option Str:=
 if (decide (jJ<0))||(decide (8≤jJ))then
  some ([]:Str)
 else
  idx ([([97,110,121]:Str),([110,117,108,108]:Str),([98,111,111,108]:Str),([105,110,116]:Str),([115,116,114,105,110,103]:Str),([108,105,115,116]:Str),([109,97,112]:Str),([110,101,118,101,114]:Str)]:List Str) jJ
def lU(jJ:Int):Option Bool:=
 some ((jJ==5)||(jJ==6))
def lu:Nat→Int→aI→Option Int
 | 0,_,_=>none
 | dL+1,b_,t2=>
  if decide (16<b_)then
   some 13
  else
   av (w_ t2.kind) fun x1=>
   av (
     if x1==([]:Str)then
      some true
     else
      av (lU t2.kind) fun x2=>
      some (x2&&((t2.elem.length:Int) !=1))) fun b1=>
   av (
     if b1 then
      some true
     else
      av (lU t2.kind) fun x3=>
      some ((!x3)&&((t2.elem.length:Int) !=0))) fun b2=>
   if b2 then
    some 1
   else
    av (lU t2.kind) fun x4=>
    if !x4 then
     some 0
    else
     av (idx t2.elem 0) fun e1=>
     lu dL (bV (b_+1)) e1
def nY(t1:aI):Option Int:=
 lu BIG 1 t1
def BS(eY:List dS):Nat→Int→List (Str × Int)→Option Int
 | 0,_,_=>none
 | dL+1,x1,y1=>
  if decide (x1<(eY.length:Int))then
   av (idx eY x1) fun e1=>
   av (kD (ak.mk 2 e1.name (ah.mk 0 false 0 ([]:Str) [] []) [] [])) fun x2=>
   if x2 !=0 then
    some 1
   else
    av (nY e1.Hr) fun e2=>
    if e2 !=0 then
     some e2
    else
     if decide (1<(qz (sZ y1 e1.name (bV ((qz y1 e1.name)+1))) e1.name))then
      some 7
     else
      BS eY dL (bV (x1+1)) (sZ y1 e1.name (bV ((qz y1 e1.name)+1)))
  else
   some 0
def JN(eY:List dS):Option Int:=
 if decide (1024<(eY.length:Int))then
  some 3
 else
  BS eY BIG 0 []
def jZ(jJ:Int):Option aI:=
 some (aI.mk jJ [])
def Cu(sD:aI→Option aI)(t1:aI):Option aI:=
 av (lU t1.kind) fun x1=>
 if !x1 then
  jZ t1.kind
 else
  none
def tO:Nat→aI→Option aI
 | 0,_=>none
 | k+1,ZU=>Cu (tO k) ZU
def Fb(ZU:aI):Option aI:=tO BIG ZU
def Ei(uw:aI→aI→Option aI)(a1 b1:aI):Option aI:=
 if a1.kind==7 then
  Fb b1
 else
  if b1.kind==7 then
   Fb a1
  else
   if a1.kind !=b1.kind then
    jZ 0
   else
    av (lU a1.kind) fun x4=>
    if x4 then
     none
    else
     jZ a1.kind
def vQ:Nat→aI→aI→Option aI
 | 0,_,_=>none
 | k+1,Hg,Hf=>Ei (vQ k) Hg Hf
def Hl(Hg Hf:aI):Option aI:=vQ BIG Hg Hf
def xO(kZ:ah→Option aI)(v1:ah):Nat→Int→aI→Option aI
 | 0,_,_=>none
 | dL+1,x6,Sw=>
  if decide (x6<(v1.aN.length:Int))then
   av (idx v1.aN x6) fun e1=>
   av (kZ e1) fun x7=>
   av (Hl Sw x7) fun x8=>
   xO kZ v1 dL (bV (x6+1)) x8
  else
   if v1.kind==4 then
    none
   else
    none
def Ej(kZ:ah→Option aI)(v1:ah):Option aI:=
 if v1.kind==0 then
  jZ 1
 else
  if v1.kind==1 then
   jZ 2
  else
   if v1.kind==2 then
    jZ 3
   else
    if v1.kind==3 then
     jZ 4
    else
     av (jZ 7) fun x5=>
     xO kZ v1 BIG 0 x5
def vR:Nat→ah→Option aI
 | 0,_=>none
 | k+1,wP=>Ej (vR k) wP
def Ou(wP:ah):Option aI:=vR BIG wP
def MS(v1:ah):Option aI:=
 av (kM v1) fun x1=>
 if x1 !=0 then
  jZ 0
 else
  Ou v1
def sV(eY:List dS)(name1:Str):Nat→Int→Option (aI × Int)
 | 0,_=>none
 | dL+1,x1=>
  if decide (x1<(eY.length:Int))then
   av (idx eY x1) fun e1=>
   if e1.name==name1 then
    some (e1.Hr,0)
   else
    sV eY name1 dL (bV (x1+1))
  else
   some ((aI.mk 0 []),10)
def Dg(eY:List dS)(name1:Str):Option (aI × Int):=
 sV eY name1 BIG 0
def lZ(jJ:Int):Option aI:=
 some (aI.mk jJ [])
def ng(jJ:Int)(c1 c2:aI):Option Bool:=
 none
def kQ(t1:aI):Option Bool:=
 some ((t1.kind==0)||(t1.kind==7))
def kJ(a1 b1:aI)(jJ:Int):Option Bool:=
 av (kQ a1) fun x1=>
 av (
   if x1||(a1.kind==jJ)then
    av (kQ b1) fun x2=>
    some (x2||(b1.kind==jJ))
   else
    some false) fun b2=>
 some (b2&&((a1.kind==jJ)||(b1.kind==jJ)))
def Ho(a1 b1:aI):Option Bool:=
 av (nY a1) fun x1=>
 if x1==0 then
  av (nY b1) fun x2=>
  some (x2==0)
 else
  some false
def Hq(a1 b1:aI):Option aI:=
 av (Ho a1 b1) fun x1=>
 if !x1 then
  jZ 0
 else
  Hl a1 b1
def NQ(a1 b1:aI):Option (aI × Int):=
 av (kQ a1) fun x1=>
 av (
   if x1 then
    kQ b1
   else
    some false) fun b2=>
 if b2 then
  if (a1.kind==0)||(b1.kind==0)then
   av (lZ 0) fun x3=>
   some (x3,0)
  else
   av (lZ 7) fun x4=>
   some (x4,0)
 else
  av (kJ a1 b1 3) fun x5=>
  if x5 then
   av (lZ 3) fun x6=>
   some (x6,0)
  else
   av (kJ a1 b1 4) fun x7=>
   if x7 then
    av (lZ 4) fun x8=>
    some (x8,0)
   else
    av (kJ a1 b1 5) fun x9=>
    if x9 then
     none
    else
     some ((aI.mk 0 []),9)
def F9(op1:Str)(a1 b1:aI):Option (aI × Int):=
 if op1==([38,38]:Str)then
  av (ng 2 a1 b1) fun x1=>
  if x1 then
   av (lZ 2) fun x2=>
   some (x2,0)
  else
   some ((aI.mk 0 []),9)
 else
  if op1==([124,124]:Str)then
   av (ng 2 a1 b1) fun x3=>
   if x3 then
    av (lZ 2) fun x4=>
    some (x4,0)
   else
    some ((aI.mk 0 []),9)
  else
   if op1==([61,61]:Str)then
    av (lZ 2) fun x5=>
    some (x5,0)
   else
    if op1==([33,61]:Str)then
     av (lZ 2) fun x6=>
     some (x6,0)
    else
     if op1==([60]:Str)then
      av (kQ a1) fun x7=>
      av (
        if x7 then
         kQ b1
        else
         some false) fun b2=>
      av (
        if b2 then
         some true
        else
         kJ a1 b1 3) fun b3=>
      av (
        if b3 then
         some true
        else
         kJ a1 b1 4) fun b4=>
      if b4 then
       av (lZ 2) fun La=>
       some (La,0)
      else
       some ((aI.mk 0 []),9)
     else
      if op1==([60,61]:Str)then
       av (kQ a1) fun Qf=>
       av (
         if Qf then
          kQ b1
         else
          some false) fun b5=>
       av (
         if b5 then
          some true
         else
          kJ a1 b1 3) fun b6=>
       av (
         if b6 then
          some true
         else
          kJ a1 b1 4) fun b7=>
       if b7 then
        av (lZ 2) fun TQ=>
        some (TQ,0)
       else
        some ((aI.mk 0 []),9)
      else
       if op1==([62]:Str)then
        av (kQ a1) fun XL=>
        av (
          if XL then
           kQ b1
          else
           some false) fun b8=>
        av (
          if b8 then
           some true
          else
           kJ a1 b1 3) fun b9=>
        av (
          if b9 then
           some true
          else
           kJ a1 b1 4) fun b10=>
        if b10 then
         av (lZ 2) fun x21=>
         some (x21,0)
        else
         some ((aI.mk 0 []),9)
       else
        if op1==([62,61]:Str)then
         av (kQ a1) fun x22=>
         av (
           if x22 then
            kQ b1
           else
            some false) fun b11=>
         av (
           if b11 then
            some true
           else
            kJ a1 b1 3) fun b12=>
         av (
           if b12 then
            some true
           else
            kJ a1 b1 4) fun b13=>
         if b13 then
          av (lZ 2) fun x26=>
          some (x26,0)
         else
          some ((aI.mk 0 []),9)
        else
         if op1==([45]:Str)then
          av (ng 3 a1 b1) fun x27=>
          if x27 then
           av (lZ 3) fun x28=>
           some (x28,0)
          else
           some ((aI.mk 0 []),9)
         else
          if op1==([42]:Str)then
           av (ng 3 a1 b1) fun x29=>
           if x29 then
            av (lZ 3) fun x30=>
            some (x30,0)
           else
            some ((aI.mk 0 []),9)
          else
           if op1==([47]:Str)then
            av (ng 3 a1 b1) fun x31=>
            if x31 then
             av (lZ 3) fun x32=>
             some (x32,0)
            else
             some ((aI.mk 0 []),9)
           else
            if op1==([37]:Str)then
             av (ng 3 a1 b1) fun x33=>
             if x33 then
              av (lZ 3) fun x34=>
              some (x34,0)
             else
              some ((aI.mk 0 []),9)
            else
             if op1==([43]:Str)then
              NQ a1 b1
             else
              some ((aI.mk 0 []),9)
def F8(iY:ak→List dS→Option (aI × Int))(mR:List ak→List dS→Option (List aI × Int))(e1:ak)(eY:List dS):Option (aI × Int):=
 if e1.kind==5 then
  none
 else
  fI (mR e1.args eY) fun MU f1=>
  if f1 !=0 then
   some ((aI.mk 0 []),f1)
  else
   if e1.kind==1 then
    av (MS e1.value) fun x1=>
    some (x1,0)
   else
    if e1.kind==2 then
     Dg eY e1.name
    else
     if e1.kind==3 then
      none
     else
      if e1.kind==4 then
       none
      else
       if e1.kind==6 then
        none
       else
        if e1.kind==7 then
         av (idx MU 0) fun e2=>
         av (idx MU 1) fun e3=>
         F9 e1.name e2 e3
        else
         if e1.kind==8 then
          none
         else
          if e1.kind==9 then
           none
          else
           none
def BQ(iY:ak→List dS→Option (aI × Int))(l1:List ak)(eY:List dS):Nat→List aI→Int→Option (List aI × Int)
 | 0,_,_=>none
 | dL+1,bD,x1=>
  if decide (x1<(l1.length:Int))then
   av (idx l1 x1) fun e1=>
   fI (iY e1 eY) fun x2 f1=>
   if f1 !=0 then
    some ([],f1)
   else
    av (app bD [x2]) fun xI=>
    BQ iY l1 eY dL xI (bV (x1+1))
  else
   some (bD,0)
def I6(iY:ak→List dS→Option (aI × Int))(mR:List ak→List dS→Option (List aI × Int))(l1:List ak)(eY:List dS):Option (List aI × Int):=
 BQ iY l1 eY BIG [] 0
mutual
def rU:Nat→ak→List dS→Option (aI × Int)
 | 0,_,_=>none
 | k+1,kS,nS=>F8 (rU k) (uI k) kS nS
def uI:Nat→List ak→List dS→Option (List aI × Int)
 | 0,_,_=>none
 | k+1,O4,nS=>I6 (rU k) (uI k) O4 nS
end
def SH(kS:ak)(nS:List dS):Option (aI × Int):=rU BIG kS nS
def ad4(O4:List ak)(nS:List dS):Option (List aI × Int):=uI BIG O4 nS
def KZ(e1:ak)(eY:List dS):Option (aI × Int):=
 av (JN eY) fun f1=>
 if f1 !=0 then
  some ((aI.mk 0 []),f1)
 else
  av (kD e1) fun f2=>
  if f2 !=0 then
   some ((aI.mk 0 []),f2)
  else
   fI (SH e1 eY) fun x1 f3=>
   if f3 !=0 then
    some ((aI.mk 0 []),f3)
   else
    av (lZ 7) fun x2=>
    av (Hq x1 x2) fun x3=>
    some (x3,0)
def yE(eY:List dS)(s1:Option Int)(x1:ak):Option (Bool × Option Int):=
 match s1 with
 | some _=>none
 | none=>
  fI (KZ x1 eY) fun t1 mI=>
  if mI !=0 then
   some (false,some mI)
  else
   if (t1.kind==5)||(t1.kind==6)then
    some (false,some 9)
   else
    some (true,none)
def BA(s1:Str)(eY:List dS):Option Int:=
 Au (lF s1) fun ps1 _ mI=>
 if mI !=0 then
  some mI
 else
  av (JN eY) fun Db=>
  if Db !=0 then
   some Db
  else
   av (rO (yE eY) none ps1) fun s2=>
   some (s2.getD 0)
def zu:Option Bool:=
 av (app ([97]:Str) ([36]:List UInt8)) fun x1=>
 av (app x1 ([36]:List UInt8)) fun x2=>
 av (app x2 ([98]:Str)) fun x3=>
 av Mf fun x4=>
 av (app x3 x4) fun x5=>
 av (app x5 ([120,32,43,32,49,125,99]:Str)) fun s1=>
 Au (lF s1) fun l1 x6 e1=>
 fI (fU s1 [(aB.mk ([120]:Str) (ah.mk 2 false 2 ([]:Str) [] []))]) fun t1 f1=>
 fI (FU s1) fun n1 g1=>
 av Mf fun x7=>
 av (app ([97]:Str) x7) fun x8=>
 av (app x8 ([49,32,43,125]:Str)) fun x9=>
 Au (lF x9) fun EB jd hx1=>
 av (
   if (e1 !=0)||((l1.length:Int) !=3)then
    some true
   else
    av (idx l1 0) fun e2=>
    av (app ([97]:Str) ([36]:List UInt8)) fun La=>
    av (app La ([98]:Str)) fun Qf=>
    some (!(e2.text==Qf))) fun b1=>
 av (
   if b1 then
    some true
   else
    av (idx l1 1) fun e3=>
    some (!e3.Z0)) fun b2=>
 av (
   if b2 then
    some true
   else
    av (idx l1 2) fun e4=>
    some (!(e4.text==([99]:Str)))) fun b3=>
 av (
   if b3||(f1 !=0)then
    some true
   else
    av (app ([97]:Str) ([36]:List UInt8)) fun OY=>
    av (app OY ([98,51,99]:Str)) fun UQ=>
    some (!(t1==UQ))) fun b4=>
 if b4 then
  some false
 else
  av (
    if (g1==0)&&((n1.length:Int)==1)then
     av (idx n1 0) fun e5=>
     some (e5==([120]:Str))
    else
     some false) fun b5=>
  av (
    if (b5&&(jd==6))&&(hx1==4)then
     av (Iu l1) fun XY=>
     some (XY==s1)
    else
     some false) fun b6=>
  av (
    if b6 then
     av (BA s1 [(dS.mk ([120]:Str) (aI.mk 3 []))]) fun TQ=>
     some (TQ==0)
    else
     some false) fun b7=>
  if b7 then
   av (BA s1 []) fun XL=>
   some (XL==10)
  else
   some false
def jU(s1 t1:Str)(gu:List aB)(a1 b3:Str):Nat→Int→Int→Option Bool
 | 0,_,_=>none
 | dL+1,uG,i1=>
  if decide (i1<(s1.length:Int))then
   av (idx s1 i1) fun x4=>
   if (x4.toNat:Int)==36 then
    jU s1 t1 gu a1 b3 dL (bV (uG+1)) (bV (i1+1))
   else
    jU s1 t1 gu a1 b3 dL uG (bV (i1+1))
  else
   if (uG==0)&&(!(a1==s1))then
    some false
   else
    av (app s1 t1) fun x5=>
    fI (fU x5 gu) fun c1 g1=>
    av (
      if g1==0 then
       av (app a1 b3) fun x6=>
       some (c1==x6)
      else
       some false) fun b4=>
    if b4 then
     zu
    else
     some false
def wF(s1 t1:Str)(gu:List aB):Option Bool:=
 av (
   if (decide (4096<(bV ((s1.length:Int)+(t1.length:Int)))))||(decide (300<(gu.length:Int)))then
    some true
   else
    if !(s1==([]:Str))then
     av (idx s1 (bV ((s1.length:Int)-1))) fun x1=>
     some ((x1.toNat:Int)==36)
    else
     some false) fun b1=>
 if b1 then
  zu
 else
  fI (fU s1 gu) fun a1 e1=>
  fI (fU t1 gu) fun b3 f1=>
  if ((e1 !=0)||(f1 !=0))||(decide (4096<(bV ((a1.length:Int)+(b3.length:Int)))))then
   zu
  else
   jU s1 t1 gu a1 b3 BIG 0 0
end Go.Ft
