/- Proved here: nothing: the functional texts of the functions that the statements reach, as our program wrote them. -/
import Derived.Test.YtpbjbkhfpjckoaaGreatDoorIeWords
set_option linter.unusedVariables false
set_option linter.unusedSimpArgs false
set_option linter.defProp false
set_option linter.unusedSectionVars false
namespace Go.Ft
open Go
structure ay where
 kind:Int
 text:Str
 at_:Int
 deriving DecidableEq
structure au where
 ts:List ay
 at_:Int
 deriving DecidableEq
structure aA where
 at_:Int
 code:Int
 deriving DecidableEq
structure ah where
 kind:Int
 dD:Bool
 cu:Int
 bJ:Str
 aP:List ah
 keys:List Str
structure aj where
 kind:Int
 name:Str
 value:ah
 args:List aj
 keys:List Str
structure aO where
 text:Str
 QE:Bool
 expr:aj
structure aB where
 name:Str
 value:ah
structure aG where
 code:Int
 deriving DecidableEq
structure fD where
 half:List (BitVec 64)
 neg:Bool
 deriving DecidableEq
structure aM where
 kind:Int
 elem:List aM
structure bU where
 name:Str
 F3:aM
structure bD where
 neg:Bool
 hi:BitVec 64
 lo:BitVec 64
 deriving DecidableEq
structure ail where
 x:Int
 y:Int
 signed:Bool
 code:UInt8
 deriving DecidableEq
structure EH where
 x:Int
 y:Int
 signed:Bool
 code:UInt8
 deriving DecidableEq
structure aik where
 msg:Str
 addr:BitVec 64
 deriving DecidableEq
structure wD where
 msg:Str
 addr:BitVec 64
 deriving DecidableEq
structure aij where
 kind:Int
 dD:Bool
 cu:Int
 bJ:Str
 aP:List ah
 keys:List Str
structure aii where
 kind:Int
 name:Str
 value:ah
 args:List aj
 keys:List Str
structure aif where
 text:Str
 QE:Bool
 expr:aj
structure aie where
 name:Str
 value:ah
structure aic where
 kind:Int
 elem:List aM
structure aib where
 name:Str
 F3:aM
structure aia where
 kind:Int
 text:Str
 at_:Int
 deriving DecidableEq
structure ah_ where
 ts:List ay
 at_:Int
 deriving DecidableEq
structure ah9 where
 at_:Int
 code:Int
 deriving DecidableEq
structure ah8 where
 code:Int
 deriving DecidableEq
structure ah7 where
 lo:UInt8
 hi:UInt8
 deriving DecidableEq
structure IW where
 lo:UInt8
 hi:UInt8
 deriving DecidableEq
structure ah6 where
 neg:Bool
 hi:BitVec 64
 lo:BitVec 64
 deriving DecidableEq
structure arn where
 half:List (BitVec 64)
 neg:Bool
 deriving DecidableEq
structure arl where
 func:Str
 num:Str
 err:Option Nat
structure afa where
 func:Str
 num:Str
 err:Option Nat
structure ah5 where
 s:Str
 deriving DecidableEq
structure FC where
 s:Str
 deriving DecidableEq
def ay.bulk(x:ay):Nat:=1+(x.text.length+1)+1+1
def au.bulk(x:au):Nat:=((List.map (fun z:ay=>(ay.bulk z)) x.ts).sum+1)+1+1
def aA.bulk(x:aA):Nat:=1+1+1
mutual
def ah.bulk:ah→Nat
 | ⟨a0,a1,a2,a3,a4,a5⟩=>1+1+1+(a3.length+1)+(ah.kU a4+1)+((List.map (fun z:Str=>(z.length+1)) a5).sum+1)+1
def ah.kU:List ah→Nat
 | []=>0
 | x::xs=>ah.bulk x+ah.kU xs
end
theorem ah.nR:∀l:List ah,ah.kU l=(l.map ah.bulk).sum
 | []=>rfl
 | x::l=>by simp only[ah.kU,arq,arJ,ah.nR l]
theorem ah.nJ(x:ah):ah.bulk x=1+1+1+(x.bJ.length+1)+(ah.kU x.aP+1)+((List.map (fun z:Str=>(z.length+1)) x.keys).sum+1)+1:=by cases x;rfl
mutual
def aj.bulk:aj→Nat
 | ⟨a0,a1,a2,a3,a4⟩=>1+(a1.length+1)+(ah.bulk a2)+(aj.kU a3+1)+((List.map (fun z:Str=>(z.length+1)) a4).sum+1)+1
def aj.kU:List aj→Nat
 | []=>0
 | x::xs=>aj.bulk x+aj.kU xs
end
theorem aj.nR:∀l:List aj,aj.kU l=(l.map aj.bulk).sum
 | []=>rfl
 | x::l=>by simp only[aj.kU,arq,arJ,aj.nR l]
theorem aj.nJ(x:aj):aj.bulk x=1+(x.name.length+1)+(ah.bulk x.value)+(aj.kU x.args+1)+((List.map (fun z:Str=>(z.length+1)) x.keys).sum+1)+1:=by cases x;rfl
def aO.bulk(x:aO):Nat:=(x.text.length+1)+1+(aj.bulk x.expr)+1
def aB.bulk(x:aB):Nat:=(x.name.length+1)+(ah.bulk x.value)+1
def aG.bulk(x:aG):Nat:=1+1
mutual
def aM.bulk:aM→Nat
 | ⟨a0,a1⟩=>1+(aM.kU a1+1)+1
def aM.kU:List aM→Nat
 | []=>0
 | x::xs=>aM.bulk x+aM.kU xs
end
theorem aM.nR:∀l:List aM,aM.kU l=(l.map aM.bulk).sum
 | []=>rfl
 | x::l=>by simp only[aM.kU,arq,arJ,aM.nR l]
theorem aM.nJ(x:aM):aM.bulk x=1+(aM.kU x.elem+1)+1:=by cases x;rfl
def bU.bulk(x:bU):Nat:=(x.name.length+1)+(aM.bulk x.F3)+1
def bD.bulk(x:bD):Nat:=1+1+1+1
def ail.bulk(x:ail):Nat:=1+1+1+1+1
def EH.bulk(x:EH):Nat:=1+1+1+1+1
def aik.bulk(x:aik):Nat:=(x.msg.length+1)+1+1
def wD.bulk(x:wD):Nat:=(x.msg.length+1)+1+1
def aij.bulk(x:aij):Nat:=1+1+1+(x.bJ.length+1)+(ah.kU x.aP+1)+((List.map (fun z:Str=>(z.length+1)) x.keys).sum+1)+1
def aii.bulk(x:aii):Nat:=1+(x.name.length+1)+(ah.bulk x.value)+(aj.kU x.args+1)+((List.map (fun z:Str=>(z.length+1)) x.keys).sum+1)+1
def aif.bulk(x:aif):Nat:=(x.text.length+1)+1+(aj.bulk x.expr)+1
def aie.bulk(x:aie):Nat:=(x.name.length+1)+(ah.bulk x.value)+1
def aic.bulk(x:aic):Nat:=1+(aM.kU x.elem+1)+1
def aib.bulk(x:aib):Nat:=(x.name.length+1)+(aM.bulk x.F3)+1
def aia.bulk(x:aia):Nat:=1+(x.text.length+1)+1+1
def ah_.bulk(x:ah_):Nat:=((List.map (fun z:ay=>(ay.bulk z)) x.ts).sum+1)+1+1
def ah9.bulk(x:ah9):Nat:=1+1+1
def ah8.bulk(x:ah8):Nat:=1+1
def ah7.bulk(x:ah7):Nat:=1+1+1
def IW.bulk(x:IW):Nat:=1+1+1
def ah6.bulk(x:ah6):Nat:=1+1+1+1
def ah5.bulk(x:ah5):Nat:=(x.s.length+1)+1
def FC.bulk(x:FC):Nat:=(x.s.length+1)+1
def Ni:Option Str:=
 some ([36,123]:List UInt8)
def nE(s1 zq:Str):Option Bool:=
 if decide ((zq.length:Int)≤(s1.length:Int))then
  av (sl s1 0 (zq.length:Int)) fun x1=>
  some (x1==zq)
 else
  some false
def strings_HasPrefix(s1 zq:Str):Option Bool:=
 nE s1 zq
def mG(s1:Str):Nat→Int→Option Int
 | 0,_=>none
 | dW+1,i1=>
  if decide (i1<(s1.length:Int))then
   av (idx s1 i1) fun x1=>
   if (x1.toNat:Int)==92 then
    mG s1 dW (bq ((bq (i1+1))+1))
   else
    if (x1.toNat:Int)==34 then
     some (bq (i1+1))
    else
     mG s1 dW (bq (i1+1))
  else
   some (s1.length:Int)
def Bb(s1:Str)(bV:Int):Option Int:=
 mG s1 BIG (bq (bV+1))
def ig(s1:Str):Nat→Int→Int→Option Int
 | 0,_,_=>none
 | dW+1,at2,iG=>
  if decide (at2<(s1.length:Int))then
   av (idx s1 at2) fun x1=>
   if (x1.toNat:Int)==34 then
    av (Bb s1 at2) fun at3=>
    ig s1 dW at3 iG
   else
    if (x1.toNat:Int)==123 then
     ig s1 dW (bq (at2+1)) (bq (iG+1))
    else
     if (x1.toNat:Int)==125 then
      if iG==0 then
       some at2
      else
       ig s1 dW (bq (at2+1)) (bq (iG-1))
     else
      ig s1 dW (bq (at2+1)) iG
  else
   some (-1)
def zL(s1:Str)(bV:Int):Option Int:=
 ig s1 BIG bV 0
def zK(qb:Int):Option Bool:=
 some ((qb==32)||(qb==9))
def ru(s1:Str)(zY:UInt8→Option Bool):Nat→Int→Option Int
 | 0,_=>none
 | dW+1,at2=>
  av (
    if decide (at2<(s1.length:Int))then
     av (idx s1 at2) fun x1=>
     zY x1
    else
     some false) fun b1=>
  if b1 then
   ru s1 zY dW (bq (at2+1))
  else
   some at2
def uV(s1:Str)(bV:Int)(zY:UInt8→Option Bool):Option Int:=
 ru s1 zY BIG bV
def rA(c1:UInt8):Option Bool:=
 some ((c1.toNat:Int) !=10)
def sI(c1:UInt8):Option Bool:=
 some ((((decide (97≤(c1.toNat:Int)))&&(decide ((c1.toNat:Int)≤122)))||((decide (65≤(c1.toNat:Int)))&&(decide ((c1.toNat:Int)≤90))))||((c1.toNat:Int)==95))
def rU(c1:UInt8):Option Bool:=
 some ((decide (48≤(c1.toNat:Int)))&&(decide ((c1.toNat:Int)≤57)))
def vV(c1:UInt8):Option Bool:=
 av (sI c1) fun x1=>
 if x1 then
  some true
 else
  rU c1
def El(bn:Str)(bV:Int):Option (ay × Int × Int):=
 av (uV bn bV vV) fun tK=>
 if decide (64<(bq (tK-bV)))then
  some ((ay.mk 0 ([]:Str) 0),0,3)
 else
  av (sl bn bV tK) fun x1=>
  some ((ay.mk 1 x1 bV),tK,0)
def rz(zW:Str):Nat→Int→Int→Option Bool
 | 0,_,_=>none
 | dW+1,n1,i1=>
  if (decide (i1<(zW.length:Int)))&&(decide (n1≤9007199254740992))then
   av (idx zW i1) fun x1=>
   rz zW dW (bq ((bq (10*n1))+((x1-48).toNat:Int))) (bq (i1+1))
  else
   some (decide (9007199254740992<n1))
def E_(zW:Str):Option Bool:=
 rz zW BIG 0 0
def zJ(bn:Str)(bV:Int):Option (ay × Int × Int):=
 av (uV bn bV rU) fun tK=>
 av (sl bn bV tK) fun text1=>
 av (
   if decide (1<(text1.length:Int))then
    av (idx text1 0) fun x1=>
    some ((x1.toNat:Int)==48)
   else
    some false) fun b1=>
 av (
   if b1 then
    some true
   else
    if decide (tK<(bn.length:Int))then
     av (idx bn tK) fun x2=>
     sI x2
    else
     some false) fun b2=>
 if b2 then
  some ((ay.mk 0 ([]:Str) 0),0,5)
 else
  av (E_ text1) fun x4=>
  if x4 then
   some ((ay.mk 0 ([]:Str) 0),0,2)
  else
   some ((ay.mk 2 text1 bV),tK,0)
def vW(c1:UInt8):Option Int:=
 av (rU c1) fun x1=>
 if x1 then
  some ((c1-48).toNat:Int)
 else
  if (decide (97≤(c1.toNat:Int)))&&(decide ((c1.toNat:Int)≤102))then
   some (bq (((c1-97).toNat:Int)+10))
  else
   if (decide (65≤(c1.toNat:Int)))&&(decide ((c1.toNat:Int)≤70))then
    some (bq (((c1-65).toNat:Int)+10))
   else
    some (-1)
def wW(bn:Str)(bV:Int):Option (UInt8 × Int):=
 if decide ((bn.length:Int)≤(bq (bV+1)))then
  some (0,0)
 else
  av (idx bn (bq (bV+1))) fun c1=>
  if (c1.toNat:Int)==34 then
   some (c1,2)
  else
   if (c1.toNat:Int)==92 then
    some (c1,2)
   else
    if (c1.toNat:Int)==110 then
     some (10,2)
    else
     if (c1.toNat:Int)==116 then
      some (9,2)
     else
      if (c1.toNat:Int)==120 then
       av (
         if decide ((bq (bV+3))<(bn.length:Int))then
          av (idx bn (bq (bV+2))) fun x1=>
          av (vW x1) fun x2=>
          some (decide (0≤x2))
         else
          some false) fun b1=>
       av (
         if b1 then
          av (idx bn (bq (bV+3))) fun x3=>
          av (vW x3) fun x4=>
          some (decide (0≤x4))
         else
          some false) fun b2=>
       if b2 then
        av (idx bn (bq (bV+2))) fun x5=>
        av (vW x5) fun x6=>
        av (idx bn (bq (bV+3))) fun x7=>
        av (vW x7) fun x8=>
        some ((Ft.byteOf (bq ((bq (16*x6))+x8))),4)
       else
        some (0,0)
      else
       some (0,0)
def BP(bn:Str)(bV:Int):Option Bool:=
 av (sl bn (bq (bV+1)) (bn.length:Int)) fun MN=>
 if (MN==([]:Str))||(MN==([120]:Str))then
  some true
 else
  av (
    if (MN.length:Int)==2 then
     av (idx MN 0) fun x1=>
     some ((x1.toNat:Int)==120)
    else
     some false) fun b2=>
  if b2 then
   av (idx MN 1) fun x2=>
   av (vW x2) fun x3=>
   some (decide (0≤x3))
  else
   some false
def qF(bn:Str)(bV:Int):Nat→Int→Str→Option (ay × Int × Int)
 | 0,_,_=>none
 | dW+1,i1,b1=>
  if decide (i1<(bn.length:Int))then
   av (idx bn i1) fun c1=>
   if (c1.toNat:Int)==34 then
    if decide (4096<(b1.length:Int))then
     some ((ay.mk 0 ([]:Str) 0),0,3)
    else
     some ((ay.mk 3 b1 bV),(bq (i1+1)),0)
   else
    if decide ((c1.toNat:Int)<32)then
     some ((ay.mk 0 ([]:Str) 0),0,5)
    else
     if (c1.toNat:Int)==92 then
      eO (wW bn i1) fun x1 n1=>
      av (
        if n1==0 then
         BP bn i1
        else
         some false) fun b2=>
      if b2 then
       some ((ay.mk 0 ([]:Str) 0),0,4)
      else
       if n1==0 then
        some ((ay.mk 0 ([]:Str) 0),0,5)
       else
        av (app b1 [x1]) fun b3=>
        qF bn bV dW (bq (i1+n1)) b3
     else
      av (app b1 [c1]) fun b4=>
      qF bn bV dW (bq (i1+1)) b4
  else
   some ((ay.mk 0 ([]:Str) 0),0,4)
def Ej(bn:Str)(bV:Int):Option (ay × Int × Int):=
 qF bn bV BIG (bq (bV+1)) []
def jm(bn:Str)(bV:Int):Nat→Int→Option (ay × Int × Int)
 | 0,_=>none
 | dW+1,x1=>
  if decide (x1<(([2,1]:List Int).length:Int))then
   av (idx ([2,1]:List Int) x1) fun n1=>
   if decide ((bn.length:Int)<(bq (bV+n1)))then
    jm bn bV dW (bq (x1+1))
   else
    av (sl bn bV (bq (bV+n1))) fun s1=>
    if s1==([124,124]:Str)then
     some ((ay.mk 4 s1 bV),(bq (bV+n1)),0)
    else
     if s1==([38,38]:Str)then
      some ((ay.mk 4 s1 bV),(bq (bV+n1)),0)
     else
      if s1==([61,61]:Str)then
       some ((ay.mk 4 s1 bV),(bq (bV+n1)),0)
      else
       if s1==([33,61]:Str)then
        some ((ay.mk 4 s1 bV),(bq (bV+n1)),0)
       else
        if s1==([60,61]:Str)then
         some ((ay.mk 4 s1 bV),(bq (bV+n1)),0)
        else
         if s1==([62,61]:Str)then
          some ((ay.mk 4 s1 bV),(bq (bV+n1)),0)
         else
          if s1==([60]:Str)then
           some ((ay.mk 4 s1 bV),(bq (bV+n1)),0)
          else
           if s1==([62]:Str)then
            some ((ay.mk 4 s1 bV),(bq (bV+n1)),0)
           else
            if s1==([43]:Str)then
             some ((ay.mk 4 s1 bV),(bq (bV+n1)),0)
            else
             if s1==([45]:Str)then
              some ((ay.mk 4 s1 bV),(bq (bV+n1)),0)
             else
              if s1==([42]:Str)then
               some ((ay.mk 4 s1 bV),(bq (bV+n1)),0)
              else
               if s1==([47]:Str)then
                some ((ay.mk 4 s1 bV),(bq (bV+n1)),0)
               else
                if s1==([37]:Str)then
                 some ((ay.mk 4 s1 bV),(bq (bV+n1)),0)
                else
                 if s1==([33]:Str)then
                  some ((ay.mk 4 s1 bV),(bq (bV+n1)),0)
                 else
                  if s1==([63]:Str)then
                   some ((ay.mk 4 s1 bV),(bq (bV+n1)),0)
                  else
                   if s1==([58]:Str)then
                    some ((ay.mk 4 s1 bV),(bq (bV+n1)),0)
                   else
                    if s1==([46]:Str)then
                     some ((ay.mk 4 s1 bV),(bq (bV+n1)),0)
                    else
                     if s1==([44]:Str)then
                      some ((ay.mk 4 s1 bV),(bq (bV+n1)),0)
                     else
                      if s1==([61]:Str)then
                       some ((ay.mk 4 s1 bV),(bq (bV+n1)),0)
                      else
                       if s1==([40]:Str)then
                        some ((ay.mk 4 s1 bV),(bq (bV+n1)),0)
                       else
                        if s1==([41]:Str)then
                         some ((ay.mk 4 s1 bV),(bq (bV+n1)),0)
                        else
                         if s1==([91]:Str)then
                          some ((ay.mk 4 s1 bV),(bq (bV+n1)),0)
                         else
                          if s1==([93]:Str)then
                           some ((ay.mk 4 s1 bV),(bq (bV+n1)),0)
                          else
                           if s1==([123]:Str)then
                            some ((ay.mk 4 s1 bV),(bq (bV+n1)),0)
                           else
                            if s1==([125]:Str)then
                             some ((ay.mk 4 s1 bV),(bq (bV+n1)),0)
                            else
                             jm bn bV dW (bq (x1+1))
  else
   some ((ay.mk 0 ([]:Str) 0),0,5)
def uW(bn:Str)(bV:Int):Option (ay × Int × Int):=
 jm bn bV BIG 0
def BO(bn:Str)(bV:Int):Option (ay × Int × Int):=
 av (idx bn bV) fun c1=>
 av (sI c1) fun x1=>
 if x1 then
  El bn bV
 else
  av (rU c1) fun x5=>
  if x5 then
   zJ bn bV
  else
   if (c1.toNat:Int)==34 then
    Ej bn bV
   else
    uW bn bV
def uX(op1:Str)(iG:Int):Option Int:=
 if op1==([40]:Str)then
  some (bq (iG+1))
 else
  if op1==([91]:Str)then
   some (bq (iG+1))
  else
   if op1==([41]:Str)then
    some (if 0<(bq (iG-1))then (bq (iG-1))else 0)
   else
    if op1==([93]:Str)then
     some (if 0<(bq (iG-1))then (bq (iG-1))else 0)
    else
     some iG
def je(bn:Str):Nat→List ay→Int→Int→Nat→Option (List ay × Int × Int)
 | 0,_,_,_,_=>none
 | dW+1,bK,kN,iG,pos1=>
  if decide (pos1<bn.length)then
   av (
     if decide ((pos1:Int)<kN)then
      some true
     else
      zK ((dec bn pos1).1:Int)) fun b1=>
   if b1 then
    je bn dW bK kN iG (pos1+(dec bn pos1).2)
   else
    if ((dec bn pos1).1:Int)==35 then
     av (uV bn (pos1:Int) rA) fun Gv=>
     je bn dW bK Gv iG (pos1+(dec bn pos1).2)
    else
     if ((dec bn pos1).1:Int)==10 then
      av (
        if iG==0 then
         if (bK.length:Int)==0 then
          some true
         else
          av (idx bK (bq ((bK.length:Int)-1))) fun e1=>
          some (e1.kind !=5)
        else
         some false) fun b2=>
      if b2 then
       av (app bK [(ay.mk 5 ([]:Str) (pos1:Int))]) fun yQ=>
       je bn dW yQ kN iG (pos1+(dec bn pos1).2)
      else
       je bn dW bK kN iG (pos1+(dec bn pos1).2)
     else
      lN (BO bn (pos1:Int)) fun x2 tK e2=>
      if e2 !=0 then
       some ([],(pos1:Int),e2)
      else
       if x2.kind==4 then
        av (uX x2.text iG) fun YS=>
        av (app bK [x2]) fun YQ=>
        je bn dW YQ tK YS (pos1+(dec bn pos1).2)
       else
        av (app bK [x2]) fun agt=>
        je bn dW agt tK iG (pos1+(dec bn pos1).2)
  else
   some (bK,0,0)
def om(bn:Str):Option (List ay × Int × Int):=
 if decide (65536<(bn.length:Int))then
  some ([],0,3)
 else
  je bn BIG [] 0 0 0
def wT(c1:UInt8):Option Bool:=
 some ((((decide (97≤(c1.toNat:Int)))&&(decide ((c1.toNat:Int)≤122)))||((decide (65≤(c1.toNat:Int)))&&(decide ((c1.toNat:Int)≤90))))||((c1.toNat:Int)==95))
def oh(c1:UInt8):Option Bool:=
 some ((decide (48≤(c1.toNat:Int)))&&(decide ((c1.toNat:Int)≤57)))
def qY(s1:Str):Nat→Int→Option Bool
 | 0,_=>none
 | dW+1,i1=>
  if decide (i1<(s1.length:Int))then
   av (idx s1 i1) fun x3=>
   av (wT x3) fun x4=>
   av (
     if !x4 then
      av (idx s1 i1) fun x5=>
      av (oh x5) fun x6=>
      some (!x6)
     else
      some false) fun b2=>
   if b2 then
    some false
   else
    qY s1 dW (bq (i1+1))
  else
   some true
def yK(s1:Str):Option Bool:=
 av (
   if (decide ((s1.length:Int)<1))||(decide (64<(s1.length:Int)))then
    some true
   else
    av (idx s1 0) fun x1=>
    av (wT x1) fun x2=>
    some (!x2)) fun b1=>
 if b1 then
  some false
 else
  qY s1 BIG 0
def strconv_Itoa(n1:Int):Option Str:=
 if -9223372036854775808≤n1∧n1≤9223372036854775807 then some (u6 n1)else none
def strconv_Atoi(s1:Str):Option (Int × Option Nat):=
 if s1.length≤281474976710656 then some ((vC s1).2,if (vC s1).1=0 then none else some 353)else none
def lH(s1:Str):Nat→Int→Option Bool
 | 0,_=>none
 | dW+1,i1=>
  if decide (i1<(s1.length:Int))then
   av (idx s1 i1) fun x2=>
   av (oh x2) fun x3=>
   if !x3 then
    some false
   else
    lH s1 dW (bq (i1+1))
  else
   eO (strconv_Atoi s1) fun n1 SG=>
   some ((SG.isNone)&&(decide (n1≤9007199254740992)))
def uT(s1:Str):Option Bool:=
 av (
   if s1==([]:Str)then
    some true
   else
    if decide (1<(s1.length:Int))then
     av (idx s1 0) fun x1=>
     some ((x1.toNat:Int)==48)
    else
     some false) fun b1=>
 if b1 then
  some false
 else
  lH s1 BIG 0
def jE(t1:ay):Option Bool:=
 if t1.kind==1 then
  yK t1.text
 else
  if t1.kind==2 then
   uT t1.text
  else
   if t1.kind==3 then
    some (decide ((t1.text.length:Int)≤4096))
   else
    if t1.kind==4 then
     some true
    else
     some false
def jF(qb:au):Option (ay × au):=
 av (
   if decide (qb.at_<(qb.ts.length:Int))then
    av (idx qb.ts qb.at_) fun e1=>
    jE e1
   else
    some false) fun b1=>
 if b1 then
  av (idx qb.ts qb.at_) fun e2=>
  some (e2,qb)
 else
  some ((ay.mk 0 ([]:Str) 0),qb)
def vT(qb:au)(op1:Str):Option (Bool × au):=
 eO (jF qb) fun x1 y1=>
 some (((x1.kind==4)&&(x1.text==op1)),y1)
def dB(qb:au)(op1:Str):Option (Bool × au):=
 eO (vT qb op1) fun x1 y1=>
 if !x1 then
  some (false,y1)
 else
  some (true,(au.mk y1.ts (bq (y1.at_+1))))
def gQ(qb:au)(e1:Int):Option (fE aA Unit × au):=
 some (.bad (aA.mk qb.at_ e1),qb)
def jG(qb:au):Option (fE aA ay × au):=
 if decide ((qb.ts.length:Int)≤qb.at_)then
  fU (gQ qb 4) (fun e1 y2=>some (.bad e1,y2)) fun _ y1=>
  eO (jF y1) fun x1 y3=>
  if x1.kind==0 then
   fU (gQ y3 5) (fun e2 y5=>some (.bad e2,y5)) fun _ y4=>
   some (.ok x1,y4)
  else
   some (.ok x1,y3)
 else
  eO (jF qb) fun x2 y6=>
  if x2.kind==0 then
   fU (gQ y6 5) (fun e3 y8=>some (.bad e3,y8)) fun _ y7=>
   some (.ok x2,y7)
  else
   some (.ok x2,y6)
def qZ(v1:ah):Option aj:=
 some (aj.mk 1 ([]:Str) v1 [] [])
def qg(s1:Str):Option Bool:=
 some (((s1==([116,114,117,101]:Str))||(s1==([102,97,108,115,101]:Str)))||(s1==([110,117,108,108]:Str)))
def fH(qb:au)(op1:Str):Option (fE aA Unit × au):=
 fU (jG qb) (fun e1 y2=>some (.bad e1,y2)) fun x1 y1=>
 eO (dB y1 op1) fun x2 y3=>
 if !x2 then
  fU (gQ y3 5) (fun e2 y5=>some (.bad e2,y5)) fun _ y4=>
  some (.ok (),y4)
 else
  some (.ok (),y3)
def fG(op1:Str):Option Int:=
 if op1==([124,124]:Str)then
  some 2
 else
  if op1==([38,38]:Str)then
   some 3
  else
   if op1==([61,61]:Str)then
    some 4
   else
    if op1==([33,61]:Str)then
     some 4
    else
     if op1==([60]:Str)then
      some 4
     else
      if op1==([60,61]:Str)then
       some 4
      else
       if op1==([62]:Str)then
        some 4
       else
        if op1==([62,61]:Str)then
         some 4
        else
         if op1==([43]:Str)then
          some 5
         else
          if op1==([45]:Str)then
           some 5
          else
           if op1==([42]:Str)then
            some 6
           else
            if op1==([47]:Str)then
             some 6
            else
             if op1==([37]:Str)then
              some 6
             else
              some 0
def l5(aN:au→Option (fE aA aj × au))(aX:au→Int→Option (fE aA aj × au))(bC bG dh:au→Option (fE aA aj × au))(cZ:au→Str→Option (fE aA aj × au))(bY:au→Str→Option (fE aA (List aj) × au))(bQ:au→Option (fE aA aj × au))(qb:au):Option (fE aA aj × au):=
 fU (aX qb 2) (fun e1 y2=>some (.bad e1,y2)) fun x1 y1=>
 eO (dB y1 ([63]:Str)) fun x2 y3=>
 if !x2 then
  some (.ok x1,y3)
 else
  fU (aN y3) (fun e2 y5=>some (.bad e2,y5)) fun x3 y4=>
  fU (fH y4 ([58]:Str)) (fun e3 y7=>some (.bad e3,y7)) fun _ y6=>
  fU (aN y6) (fun e4 y9=>some (.bad e4,y9)) fun x4 y8=>
  some (.ok (aj.mk 8 ([]:Str) (ah.mk 0 false 0 ([]:Str) [] []) [x1,x3,x4] []),y8)
def iL(aX:au→Int→Option (fE aA aj × au))(n1:Int):Nat→aj→au→Option (fE aA aj × au)
 | 0,_,_=>none
 | dW+1,e3,y5=>
  eO (jF y5) fun x3 y6=>
  av (
    if x3.kind !=4 then
     some true
    else
     av (fG x3.text) fun x4=>
     some (x4 !=n1)) fun b1=>
  if b1 then
   some (.ok e3,y6)
  else
   fU (aX (au.mk y6.ts (bq (y6.at_+1))) (bq (n1+1))) (fun e4 y8=>some (.bad e4,y8)) fun x5 y7=>
   if n1==4 then
    some (.ok (aj.mk 7 x3.text (ah.mk 0 false 0 ([]:Str) [] []) [e3,x5] []),y7)
   else
    iL aX n1 dW (aj.mk 7 x3.text (ah.mk 0 false 0 ([]:Str) [] []) [e3,x5] []) y7
def jU(aN:au→Option (fE aA aj × au))(aX:au→Int→Option (fE aA aj × au))(bC bG dh:au→Option (fE aA aj × au))(cZ:au→Str→Option (fE aA aj × au))(bY:au→Str→Option (fE aA (List aj) × au))(bQ:au→Option (fE aA aj × au))(qb:au)(n1:Int):Option (fE aA aj × au):=
 if n1==7 then
  fU (bC qb) (fun e1 y2=>some (.bad e1,y2)) fun x1 y1=>
  some (.ok x1,y1)
 else
  fU (aX qb (bq (n1+1))) (fun e2 y4=>some (.bad e2,y4)) fun x2 y3=>
  iL aX n1 BIG x2 y3
def iV(bC bG:au→Option (fE aA aj × au)):Nat→Int→au→Option (fE aA aj × au)
 | 0,_,_=>none
 | dW+1,x1,y1=>
  if decide (x1<(([([33]:Str),([45]:Str)]:List Str).length:Int))then
   av (idx ([([33]:Str),([45]:Str)]:List Str) x1) fun op1=>
   eO (dB y1 op1) fun x2 y2=>
   if x2 then
    fU (bC y2) (fun e1 y4=>some (.bad e1,y4)) fun x3 y3=>
    some (.ok (aj.mk 6 op1 (ah.mk 0 false 0 ([]:Str) [] []) [x3] []),y3)
   else
    iV bC bG dW (bq (x1+1)) y2
  else
   fU (bG y1) (fun e2 y6=>some (.bad e2,y6)) fun x4 y5=>
   some (.ok x4,y5)
def pJ(aN:au→Option (fE aA aj × au))(aX:au→Int→Option (fE aA aj × au))(bC bG dh:au→Option (fE aA aj × au))(cZ:au→Str→Option (fE aA aj × au))(bY:au→Str→Option (fE aA (List aj) × au))(bQ:au→Option (fE aA aj × au))(qb:au):Option (fE aA aj × au):=
 iV bC bG BIG 0 qb
def gF(aN:au→Option (fE aA aj × au)):Nat→aj→au→Option (fE aA aj × au)
 | 0,_,_=>none
 | dW+1,e2,y3=>
  eO (dB y3 ([46]:Str)) fun x2 y4=>
  if x2 then
   fU (jG y4) (fun e3 y6=>some (.bad e3,y6)) fun x3 y5=>
   av (
     if x3.kind !=1 then
      some true
     else
      qg x3.text) fun b1=>
   if b1 then
    fU (gQ y5 5) (fun e4 y8=>some (.bad e4,y8)) fun _ y7=>
    gF aN dW (aj.mk 3 x3.text (ah.mk 0 false 0 ([]:Str) [] []) [e2] []) (au.mk y7.ts (bq (y7.at_+1)))
   else
    gF aN dW (aj.mk 3 x3.text (ah.mk 0 false 0 ([]:Str) [] []) [e2] []) (au.mk y5.ts (bq (y5.at_+1)))
  else
   eO (dB y4 ([91]:Str)) fun x5 y9=>
   if x5 then
    fU (aN y9) (fun e5 y11=>some (.bad e5,y11)) fun x6 y10=>
    fU (fH y10 ([93]:Str)) (fun e6 y13=>some (.bad e6,y13)) fun _ y12=>
    gF aN dW (aj.mk 4 ([]:Str) (ah.mk 0 false 0 ([]:Str) [] []) [e2,x6] []) y12
   else
    some (.ok e2,y9)
def pK(aN:au→Option (fE aA aj × au))(aX:au→Int→Option (fE aA aj × au))(bC bG dh:au→Option (fE aA aj × au))(cZ:au→Str→Option (fE aA aj × au))(bY:au→Str→Option (fE aA (List aj) × au))(bQ:au→Option (fE aA aj × au))(qb:au):Option (fE aA aj × au):=
 fU (dh qb) (fun e1 y2=>some (.bad e1,y2)) fun x1 y1=>
 gF aN BIG x1 y1
def qj(aN:au→Option (fE aA aj × au))(aX:au→Int→Option (fE aA aj × au))(bC bG dh:au→Option (fE aA aj × au))(cZ:au→Str→Option (fE aA aj × au))(bY:au→Str→Option (fE aA (List aj) × au))(bQ:au→Option (fE aA aj × au))(qb:au):Option (fE aA aj × au):=
 fU (jG qb) (fun e1 y2=>some (.bad e1,y2)) fun x1 y1=>
 if x1.kind==2 then
  eO (strconv_Atoi x1.text) fun n1 x2=>
  av (qZ (ah.mk 2 false n1 ([]:Str) [] [])) fun x3=>
  some (.ok x3,(au.mk y1.ts (bq (y1.at_+1))))
 else
  if x1.kind==3 then
   av (qZ (ah.mk 3 false 0 x1.text [] [])) fun x4=>
   some (.ok x4,(au.mk y1.ts (bq (y1.at_+1))))
  else
   if x1.kind==1 then
    fU (cZ (au.mk y1.ts (bq (y1.at_+1))) x1.text) (fun e2 y4=>some (.bad e2,y4)) fun x5 y3=>
    some (.ok x5,y3)
   else
    eO (dB y1 ([40]:Str)) fun x6 y5=>
    if x6 then
     fU (aN y5) (fun e3 y7=>some (.bad e3,y7)) fun x7 y6=>
     fU (fH y6 ([41]:Str)) (fun e4 y9=>some (.bad e4,y9)) fun _ y8=>
     some (.ok x7,y8)
    else
     eO (dB y5 ([91]:Str)) fun x8 y10=>
     if x8 then
      fU (bY y10 ([93]:Str)) (fun e5 y12=>some (.bad e5,y12)) fun x9 y11=>
      some (.ok (aj.mk 9 ([]:Str) (ah.mk 0 false 0 ([]:Str) [] []) x9 []),y11)
     else
      eO (dB y10 ([123]:Str)) fun G8 y13=>
      if G8 then
       fU (bQ y13) (fun e6 y15=>some (.bad e6,y15)) fun NP y14=>
       some (.ok NP,y14)
      else
       fU (gQ y13 5) (fun e7 y17=>some (.bad e7,y17)) fun _ y16=>
       some (.ok (aj.mk 0 ([]:Str) (ah.mk 0 false 0 ([]:Str) [] []) [] []),y16)
def qh(aN:au→Option (fE aA aj × au))(aX:au→Int→Option (fE aA aj × au))(bC bG dh:au→Option (fE aA aj × au))(cZ:au→Str→Option (fE aA aj × au))(bY:au→Str→Option (fE aA (List aj) × au))(bQ:au→Option (fE aA aj × au))(qb:au)(s1:Str):Option (fE aA aj × au):=
 if s1==([110,117,108,108]:Str)then
  av (qZ (ah.mk 0 false 0 ([]:Str) [] [])) fun x1=>
  some (.ok x1,qb)
 else
  av (qg s1) fun x2=>
  if x2 then
   av (qZ (ah.mk 1 (s1==([116,114,117,101]:Str)) 0 ([]:Str) [] [])) fun x3=>
   some (.ok x3,qb)
  else
   eO (dB qb ([40]:Str)) fun x4 y1=>
   if x4 then
    fU (bY y1 ([41]:Str)) (fun e1 y3=>some (.bad e1,y3)) fun x5 y2=>
    some (.ok (aj.mk 5 s1 (ah.mk 0 false 0 ([]:Str) [] []) x5 []),y2)
   else
    some (.ok (aj.mk 2 s1 (ah.mk 0 false 0 ([]:Str) [] []) [] []),y1)
def kg(aN:au→Option (fE aA aj × au))(tK:Str):Nat→List aj→au→Option (fE aA (List aj) × au)
 | 0,_,_=>none
 | dW+1,bK,y2=>
  fU (aN y2) (fun e1 y4=>some (.bad e1,y4)) fun x2 y3=>
  av (app bK [x2]) fun yQ=>
  eO (dB y3 ([44]:Str)) fun x3 y5=>
  if !x3 then
   fU (fH y5 tK) (fun e2 y7=>some (.bad e2,y7)) fun _ y6=>
   some (.ok yQ,y6)
  else
   kg aN tK dW yQ y5
def ql(aN:au→Option (fE aA aj × au))(aX:au→Int→Option (fE aA aj × au))(bC bG dh:au→Option (fE aA aj × au))(cZ:au→Str→Option (fE aA aj × au))(bY:au→Str→Option (fE aA (List aj) × au))(bQ:au→Option (fE aA aj × au))(qb:au)(tK:Str):Option (fE aA (List aj) × au):=
 eO (dB qb tK) fun x1 y1=>
 if x1 then
  some (.ok [],y1)
 else
  kg aN tK BIG [] y1
def iA(aN:au→Option (fE aA aj × au)):Nat→aj→au→Option (fE aA aj × au)
 | 0,_,_=>none
 | dW+1,bK,y2=>
  fU (jG y2) (fun e1 y4=>some (.bad e1,y4)) fun x2 y3=>
  if (x2.kind !=1)&&(x2.kind !=3)then
   fU (gQ y3 5) (fun e2 y6=>some (.bad e2,y6)) fun _ y5=>
   fU (fH (au.mk y5.ts (bq (y5.at_+1))) ([58]:Str)) (fun e3 y8=>some (.bad e3,y8)) fun _ y7=>
   av (app bK.keys ([x2.text]:List Str)) fun x3=>
   fU (aN y7) (fun e4 y10=>some (.bad e4,y10)) fun x4 y9=>
   av (app bK.args [x4]) fun x5=>
   eO (dB y9 ([44]:Str)) fun x6 y11=>
   if !x6 then
    fU (fH y11 ([125]:Str)) (fun e5 y13=>some (.bad e5,y13)) fun _ y12=>
    some (.ok (aj.mk bK.kind bK.name bK.value x5 x3),y12)
   else
    iA aN dW (aj.mk bK.kind bK.name bK.value x5 x3) y11
  else
   fU (fH (au.mk y3.ts (bq (y3.at_+1))) ([58]:Str)) (fun e6 y15=>some (.bad e6,y15)) fun _ y14=>
   av (app bK.keys ([x2.text]:List Str)) fun x7=>
   fU (aN y14) (fun e7 y17=>some (.bad e7,y17)) fun x8 y16=>
   av (app bK.args [x8]) fun x9=>
   eO (dB y16 ([44]:Str)) fun G8 y18=>
   if !G8 then
    fU (fH y18 ([125]:Str)) (fun e8 y20=>some (.bad e8,y20)) fun _ y19=>
    some (.ok (aj.mk bK.kind bK.name bK.value x9 x7),y19)
   else
    iA aN dW (aj.mk bK.kind bK.name bK.value x9 x7) y18
def nC(aN:au→Option (fE aA aj × au))(aX:au→Int→Option (fE aA aj × au))(bC bG dh:au→Option (fE aA aj × au))(cZ:au→Str→Option (fE aA aj × au))(bY:au→Str→Option (fE aA (List aj) × au))(bQ:au→Option (fE aA aj × au))(qb:au):Option (fE aA aj × au):=
 eO (dB qb ([125]:Str)) fun x1 y1=>
 if x1 then
  some (.ok (aj.mk 10 ([]:Str) (ah.mk 0 false 0 ([]:Str) [] []) [] []),y1)
 else
  iA aN BIG (aj.mk 10 ([]:Str) (ah.mk 0 false 0 ([]:Str) [] []) [] []) y1
mutual
def aY:Nat→au→Option (fE aA aj × au)
 | 0,_=>none
 | k+1,eU=>l5 (aY k) (bA k) (dK k) (dZ k) (eF k) (eY k) (dP k) (dM k) eU
def bA:Nat→au→Int→Option (fE aA aj × au)
 | 0,_,_=>none
 | k+1,eU,LB=>jU (aY k) (bA k) (dK k) (dZ k) (eF k) (eY k) (dP k) (dM k) eU LB
def dK:Nat→au→Option (fE aA aj × au)
 | 0,_=>none
 | k+1,eU=>pJ (aY k) (bA k) (dK k) (dZ k) (eF k) (eY k) (dP k) (dM k) eU
def dZ:Nat→au→Option (fE aA aj × au)
 | 0,_=>none
 | k+1,eU=>pK (aY k) (bA k) (dK k) (dZ k) (eF k) (eY k) (dP k) (dM k) eU
def eF:Nat→au→Option (fE aA aj × au)
 | 0,_=>none
 | k+1,eU=>qj (aY k) (bA k) (dK k) (dZ k) (eF k) (eY k) (dP k) (dM k) eU
def eY:Nat→au→Str→Option (fE aA aj × au)
 | 0,_,_=>none
 | k+1,eU,rR=>qh (aY k) (bA k) (dK k) (dZ k) (eF k) (eY k) (dP k) (dM k) eU rR
def dP:Nat→au→Str→Option (fE aA (List aj) × au)
 | 0,_,_=>none
 | k+1,eU,DV=>ql (aY k) (bA k) (dK k) (dZ k) (eF k) (eY k) (dP k) (dM k) eU DV
def dM:Nat→au→Option (fE aA aj × au)
 | 0,_=>none
 | k+1,eU=>nC (aY k) (bA k) (dK k) (dZ k) (eF k) (eY k) (dP k) (dM k) eU
end
def qX(eU:au):Option (fE aA aj × au):=aY BIG eU
def Gt(eU:au)(LB:Int):Option (fE aA aj × au):=bA BIG eU LB
def KW(eU:au):Option (fE aA aj × au):=dK BIG eU
def KX(eU:au):Option (fE aA aj × au):=dZ BIG eU
def LH(eU:au):Option (fE aA aj × au):=eF BIG eU
def LG(eU:au)(rR:Str):Option (fE aA aj × au):=eY BIG eU rR
def LJ(eU:au)(DV:Str):Option (fE aA (List aj) × au):=dP BIG eU DV
def IY(eU:au):Option (fE aA aj × au):=dM BIG eU
def E8(iX:List ay):Option (aj × Int × Int):=
 fU (qX (au.mk iX 0)) (fun f1 _=>some ((aj.mk 0 ([]:Str) (ah.mk 0 false 0 ([]:Str) [] []) [] []),f1.at_,f1.code)) fun e1 r1=>
 some (e1,r1.at_,0)
def tq(kM:aj→Option Int)(e1:aj):Nat→Int→Int→Option Int
 | 0,_,_=>none
 | dW+1,n1,x1=>
  if decide (x1<(e1.args.length:Int))then
   av (idx e1.args x1) fun e2=>
   av (kM e2) fun x2=>
   tq kM e1 dW (bq (n1+x2)) (bq (x1+1))
  else
   some n1
def zB(kM:aj→Option Int)(e1:aj):Option Int:=
 tq kM e1 BIG 1 0
def o_:Nat→aj→Option Int
 | 0,_=>none
 | k+1,gB=>zB (o_ k) gB
def CJ(gB:aj):Option Int:=o_ BIG gB
def E5(v1:ah):Option Bool:=
 some ((((((v1.kind==0)&&(!v1.dD))&&(v1.cu==0))&&(v1.bJ==([]:Str)))&&((v1.aP.length:Int)==0))&&((v1.keys.length:Int)==0))
def nZ(s1:Str):Option Bool:=
 av (yK s1) fun x1=>
 if x1 then
  av (qg s1) fun x2=>
  some (!x2)
 else
  some false
def zw(e1:aj):Option Bool:=
 if e1.kind==2 then
  nZ e1.name
 else
  if e1.kind==3 then
   nZ e1.name
  else
   if e1.kind==5 then
    nZ e1.name
   else
    if e1.kind==6 then
     some ((e1.name==([33]:Str))||(e1.name==([45]:Str)))
    else
     if e1.kind==7 then
      av (fG e1.name) fun x4=>
      some (decide (0<x4))
     else
      some (e1.name==([]:Str))
def zy(e1:aj):Option Bool:=
 if e1.kind==1 then
  some ((e1.args.length:Int)==0)
 else
  if e1.kind==2 then
   some ((e1.args.length:Int)==0)
  else
   if e1.kind==3 then
    some ((e1.args.length:Int)==1)
   else
    if e1.kind==6 then
     some ((e1.args.length:Int)==1)
    else
     if e1.kind==4 then
      some ((e1.args.length:Int)==2)
     else
      if e1.kind==7 then
       some ((e1.args.length:Int)==2)
      else
       if e1.kind==8 then
        some ((e1.args.length:Int)==3)
       else
        some true
def gI(s1:List Str)(f1:Str→Option Bool):Nat→Int→Option Int
 | 0,_=>none
 | dW+1,i1=>
  if decide (i1<(s1.length:Int))then
   av (idx s1 i1) fun e1=>
   av (f1 e1) fun x1=>
   if x1 then
    some i1
   else
    gI s1 f1 dW (bq (i1+1))
  else
   some (-1)
def jl(s1:List Str)(f1:Str→Option Bool):Option Int:=
 gI s1 f1 BIG 0
def gJ(s1:List Str)(f1:Str→Option Bool):Option Bool:=
 av (jl s1 f1) fun x1=>
 some (decide (0≤x1))
def kC(GZ:Str):Option Bool:=
 some ((decide ((GZ.length:Int)<1))||(decide (64<(GZ.length:Int))))
def zx(e1:aj):Option Bool:=
 if e1.kind !=10 then
  some ((e1.keys.length:Int)==0)
 else
  if (e1.keys.length:Int)==(e1.args.length:Int)then
   av (gJ e1.keys kC) fun x1=>
   some (!x1)
  else
   some false
def kY{β:Type}(go:β→ah→Int→Option (Bool × β))(v1:ah)(bH:Int):Nat→β→Int→Option (Bool × β)
 | 0,_,_=>none
 | dW+1,s1,i1=>
  if decide (i1<(v1.aP.length:Int))then
   av (idx v1.aP i1) fun x1=>
   eO (go s1 x1 (bq (bH+1))) fun b1 s2=>
   if !b1 then
    some (false,s2)
   else
    kY go v1 bH dW s2 (bq (i1+1))
  else
   some (true,s1)
def vH{β:Type}(go:β→ah→Int→Option (Bool × β))(y:β→Int→ah→Option (Bool × β))(s1:β)(v1:ah)(bH:Int):Option (Bool × β):=
 eO (y s1 bH v1) fun b1 s2=>
 if !b1 then
  some (false,s2)
 else
  kY go v1 bH BIG s2 0
def gD{β:Type}(y:β→Int→ah→Option (Bool × β)):Nat→β→ah→Int→Option (Bool × β)
 | 0,_,_,_=>none
 | k+1,s1,v1,bH=>vH (gD y k) y s1 v1 bH
def DN{β:Type}(y:β→Int→ah→Option (Bool × β))(s1:β)(v1:ah)(bH:Int):Option (Bool × β):=gD y BIG s1 v1 bH
def Cu(v1:ah):Option Bool:=
 some ((((((v1.kind==1)||(!v1.dD))&&((v1.kind==2)||(v1.cu==0)))&&((v1.kind==3)||(v1.bJ==([]:Str))))&&(((v1.kind==4)||(v1.kind==5))||((v1.aP.length:Int)==0)))&&((v1.kind==5)||((v1.keys.length:Int)==0)))
def Fb(c1:UInt8):Option Bool:=
 some ((decide (48≤(c1.toNat:Int)))&&(decide ((c1.toNat:Int)≤57)))
def zO(s1:Str):Nat→Int→Option Int
 | 0,_=>none
 | dW+1,n1=>
  av (
    if decide (n1<(s1.length:Int))then
     av (idx s1 n1) fun x1=>
     Fb x1
    else
     some false) fun b1=>
  if b1 then
   zO s1 dW (bq (n1+1))
  else
   some n1
def Dt(s1:Str):Option Int:=
 zO s1 BIG 0
def iJ(c1:UInt8):Nat→Str→Option Str
 | 0,_=>none
 | dW+1,s2=>
  av (
    if decide (0<(s2.length:Int))then
     av (idx s2 0) fun x1=>
     some ((x1.toNat:Int)==(c1.toNat:Int))
    else
     some false) fun b1=>
  if b1 then
   av (sl s2 1 (s2.length:Int)) fun s3=>
   iJ c1 dW s3
  else
   some s2
def strings_trimLeftByte(s1:Str)(c1:UInt8):Option Str:=
 iJ c1 BIG s1
def oM(s1 Ik:Str):Option Str:=
 if (s1==([]:Str))||(Ik==([]:Str))then
  some s1
 else
  av (
    if (Ik.length:Int)==1 then
     av (idx Ik 0) fun x1=>
     some (decide ((x1.toNat:Int)<128))
    else
     some false) fun b1=>
  if b1 then
   av (idx Ik 0) fun x2=>
   strings_trimLeftByte s1 x2
  else
   none
def cmp_isNaN_int(x1:Int):Option Bool:=
 some (x1 !=x1)
def cmp_Compare_int(x1 y1:Int):Option Int:=
 av (cmp_isNaN_int x1) fun X9=>
 av (cmp_isNaN_int y1) fun Pg=>
 if X9 then
  if Pg then
   some 0
  else
   some (-1)
 else
  if Pg then
   some 1
  else
   if decide (x1<y1)then
    some (-1)
   else
    if decide (y1<x1)then
     some 1
    else
     some 0
def cmp_isNaN_string(x1:Str):Option Bool:=
 some (!(x1==x1))
def mK(x1 y1:Str):Option Int:=
 av (cmp_isNaN_string x1) fun X9=>
 av (cmp_isNaN_string y1) fun Pg=>
 if X9 then
  if Pg then
   some 0
  else
   some (-1)
 else
  if Pg then
   some 1
  else
   if Go.Op.bytesLess x1 y1 then
    some (-1)
   else
    if !(Go.Op.bytesLess x1 y1||x1==y1)then
     some 1
    else
     some 0
def xu(Jd:List Int):Nat→Int→Option Int
 | 0,_=>none
 | dW+1,x1=>
  if decide (x1<(Jd.length:Int))then
   av (idx Jd x1) fun afs=>
   if afs !=0 then
    some afs
   else
    xu Jd dW (bq (x1+1))
  else
   some 0
def EA(Jd:List Int):Option Int:=
 xu Jd BIG 0
def wX(a1 b1:Str):Option Int:=
 av (oM a1 ([48]:Str)) fun x1=>
 av (oM b1 ([48]:Str)) fun y1=>
 av (cmp_Compare_int (x1.length:Int) (y1.length:Int)) fun x2=>
 av (mK x1 y1) fun x3=>
 av (cmp_Compare_int (a1.length:Int) (b1.length:Int)) fun x4=>
 EA ([x2,x3,x4]:List Int)
def vB(x1:UInt8):Option Bool:=
 some ((x1.toNat:Int) !=(x1.toNat:Int))
def rH(x1 y1:UInt8):Option Int:=
 av (vB x1) fun X9=>
 av (vB y1) fun Pg=>
 if X9 then
  if Pg then
   some 0
  else
   some (-1)
 else
  if Pg then
   some 1
  else
   if decide ((x1.toNat:Int)<(y1.toNat:Int))then
    some (-1)
   else
    if decide ((y1.toNat:Int)<(x1.toNat:Int))then
     some 1
    else
     some 0
def jQ:Nat→Str→Str→Option Int
 | 0,_,_=>none
 | dW+1,a2,b2=>
  if (!(a2==([]:Str)))&&(!(b2==([]:Str)))then
   av (Dt a2) fun n1=>
   av (Dt b2) fun m1=>
   if (decide (0<n1))&&(decide (0<m1))then
    av (sl a2 0 n1) fun x1=>
    av (sl b2 0 m1) fun x2=>
    av (wX x1 x2) fun c1=>
    if c1 !=0 then
     some c1
    else
     av (sl a2 n1 (a2.length:Int)) fun a3=>
     av (sl b2 m1 (b2.length:Int)) fun b3=>
     jQ dW a3 b3
   else
    av (idx a2 0) fun x3=>
    av (idx b2 0) fun x4=>
    if (x3.toNat:Int) !=(x4.toNat:Int)then
     av (idx a2 0) fun x5=>
     av (idx b2 0) fun x6=>
     rH x5 x6
    else
     av (sl a2 1 (a2.length:Int)) fun a4=>
     av (sl b2 1 (b2.length:Int)) fun b4=>
     jQ dW a4 b4
  else
   cmp_Compare_int (a2.length:Int) (b2.length:Int)
def iN(a1 b1:Str):Option Int:=
 jQ BIG a1 b1
def qR(v1:ah):Nat→Int→Option Bool
 | 0,_=>none
 | dW+1,i1=>
  if decide (i1<(v1.keys.length:Int))then
   av (idx v1.keys i1) fun GZ=>
   av (
     if (decide ((GZ.length:Int)<1))||(decide (64<(GZ.length:Int)))then
      some true
     else
      if decide (0<i1)then
       av (idx v1.keys (bq (i1-1))) fun e1=>
       av (iN e1 GZ) fun x1=>
       some (decide (0≤x1))
      else
       some false) fun b1=>
   if b1 then
    some false
   else
    qR v1 dW (bq (i1+1))
  else
   some true
def Bl(v1:ah):Option Bool:=
 if (v1.keys.length:Int) !=(v1.aP.length:Int)then
  some false
 else
  qR v1 BIG 0
def DR(v1:ah)(bH:Int):Option Int:=
 if decide (16<bH)then
  some 13
 else
  av (
    if (decide (v1.kind<0))||(decide (5<v1.kind))then
     some true
    else
     av (Cu v1) fun x1=>
     some (!x1)) fun b1=>
  if b1 then
   some 1
  else
   if (decide (v1.cu<(-9007199254740992)))||(decide (9007199254740992<v1.cu))then
    some 2
   else
    if ((decide (4096<(v1.bJ.length:Int)))||(decide (1024<(v1.aP.length:Int))))||(decide (1024<(v1.keys.length:Int)))then
     some 3
    else
     av (
       if v1.kind==5 then
        av (Bl v1) fun x2=>
        some (!x2)
       else
        some false) fun b2=>
     if b2 then
      some 1
     else
      if (((v1.kind==4)||(v1.kind==5))&&((v1.aP.length:Int)==0))&&(bH==16)then
       some 13
      else
       some 0
def mP(s1:Option Int)(bH:Int)(x1:ah):Option (Bool × Option Int):=
 match s1 with
 | some _=>none
 | none=>
  av (DR x1 bH) fun e1=>
  if !(e1==0)then
   some (false,some e1)
  else
   some (true,none)
def jW(v1:ah):Option Int:=
 eO (DN mP none v1 1) fun _ s1=>
 some (s1.getD 0)
def o9(l1:List Str):Nat→Int→List (Str × Int)→Option Bool
 | 0,_,_=>none
 | dW+1,x1,y1=>
  if decide (x1<(l1.length:Int))then
   av (idx l1 x1) fun s1=>
   if decide (1<(qJ (uz y1 s1 (bq ((qJ y1 s1)+1))) s1))then
    some true
   else
    o9 l1 dW (bq (x1+1)) (uz y1 s1 (bq ((qJ y1 s1)+1)))
  else
   some false
def sZ(l1:List Str):Option Bool:=
 o9 l1 BIG 0 []
def BL(e1:aj)(bH:Int):Option Int:=
 if decide (16<bH)then
  some 13
 else
  av (
    if (decide (e1.kind<1))||(decide (10<e1.kind))then
     some true
    else
     if e1.kind !=1 then
      av (E5 e1.value) fun x1=>
      some (!x1)
     else
      some false) fun b1=>
  av (
    if b1 then
     some true
    else
     av (zw e1) fun x2=>
     some (!x2)) fun b3=>
  av (
    if b3 then
     some true
    else
     av (zy e1) fun x3=>
     some (!x3)) fun b4=>
  av (
    if b4 then
     some true
    else
     av (zx e1) fun x4=>
     some (!x4)) fun b5=>
  if b5 then
   some 1
  else
   av (
     if e1.kind==1 then
      av (jW e1.value) fun x5=>
      some (x5 !=0)
     else
      some false) fun b6=>
   if b6 then
    jW e1.value
   else
    if decide (1024<(e1.args.length:Int))then
     some 3
    else
     av (sZ e1.keys) fun x7=>
     if x7 then
      some 7
     else
      some 0
def sW(kL:aj→Int→Option Int)(e1:aj)(bH:Int):Nat→Int→Option Int
 | 0,_=>none
 | dW+1,x1=>
  if decide (x1<(e1.args.length:Int))then
   av (idx e1.args x1) fun e2=>
   av (kL e2 (bq (bH+1))) fun f2=>
   if f2 !=0 then
    some f2
   else
    sW kL e1 bH dW (bq (x1+1))
  else
   some 0
def zu(kL:aj→Int→Option Int)(e1:aj)(bH:Int):Option Int:=
 av (BL e1 bH) fun f1=>
 if f1 !=0 then
  some f1
 else
  sW kL e1 bH BIG 0
def o8:Nat→aj→Int→Option Int
 | 0,_,_=>none
 | k+1,gB,eP=>zu (o8 k) gB eP
def HV(gB:aj)(eP:Int):Option Int:=o8 BIG gB eP
def jN(e1:aj):Option Int:=
 av (CJ e1) fun x1=>
 if decide (4096<x1)then
  some 15
 else
  HV e1 1
def BM(iX:List ay):Option (aj × Int × Int):=
 lN (E8 iX) fun x1 n1 nH=>
 if nH !=0 then
  some ((aj.mk 0 ([]:Str) (ah.mk 0 false 0 ([]:Str) [] []) [] []),n1,nH)
 else
  av (jN x1) fun GJ=>
  if GJ !=0 then
   some ((aj.mk 0 ([]:Str) (ah.mk 0 false 0 ([]:Str) [] []) [] []),0,GJ)
  else
   some (x1,n1,0)
def Cz(iX:List ay)(n1:Int)(bn:Str):Option Int:=
 if decide (n1<(iX.length:Int))then
  av (idx iX n1) fun e1=>
  some e1.at_
 else
  some (bn.length:Int)
def zA(bn:Str):Option (aj × Int × Int):=
 lN (om bn) fun iX bV nH=>
 if nH !=0 then
  some ((aj.mk 0 ([]:Str) (ah.mk 0 false 0 ([]:Str) [] []) [] []),bV,nH)
 else
  lN (BM iX) fun x1 n1 GJ=>
  if GJ !=0 then
   av (Cz iX n1 bn) fun x2=>
   some ((aj.mk 0 ([]:Str) (ah.mk 0 false 0 ([]:Str) [] []) [] []),x2,GJ)
  else
   if decide (n1<(iX.length:Int))then
    av (idx iX n1) fun e1=>
    some ((aj.mk 0 ([]:Str) (ah.mk 0 false 0 ([]:Str) [] []) [] []),e1.at_,5)
   else
    some (x1,0,0)
def kS(jY:List aO)(text1:Str):Option (List aO):=
 if decide (0<(text1.length:Int))then app jY [(aO.mk text1 false (aj.mk 0 ([]:Str) (ah.mk 0 false 0 ([]:Str) [] []) [] []))]else some jY
def kK(s1:Str):Nat→Int→List aO→Str→Option (List aO × Int × Int)
 | 0,_,_,_=>none
 | dW+1,bV,jY,text1=>
  if decide (bV<(s1.length:Int))then
   av (sl s1 bV (s1.length:Int)) fun MN=>
   av (strings_HasPrefix MN ([36,36]:Str)) fun b1=>
   if b1 then
    av (app text1 [36]) fun Yp=>
    kK s1 dW (bq (bV+2)) jY Yp
   else
    av (strings_HasPrefix MN ([36,123]:Str)) fun b2=>
    if b2 then
     av (zL s1 (bq (bV+2))) fun tK=>
     if decide (tK<0)then
      some ([],bV,4)
     else
      av (sl s1 (bq (bV+2)) tK) fun x1=>
      lN (zA x1) fun e1 n1 nH=>
      if nH !=0 then
       some ([],(bq ((bq (bV+2))+n1)),nH)
      else
       av (kS jY text1) fun WT=>
       av (app WT [(aO.mk ([]:Str) true e1)]) fun WS=>
       kK s1 dW (bq (tK+1)) WS []
    else
     av (idx s1 bV) fun c1=>
     av (app text1 [c1]) fun afL=>
     kK s1 dW (bq (bV+1)) jY afL
  else
   av (kS jY text1) fun ace=>
   some (ace,0,0)
def oo(s1:Str):Option (List aO × Int × Int):=
 if decide (4096<(s1.length:Int))then
  some ([],0,3)
 else
  kK s1 BIG 0 [] []
def BU(bX:List aB):Nat→Int→List (Str × Int)→Option Int
 | 0,_,_=>none
 | dW+1,x1,y1=>
  if decide (x1<(bX.length:Int))then
   av (idx bX x1) fun e1=>
   av (jN (aj.mk 2 e1.name (ah.mk 0 false 0 ([]:Str) [] []) [] [])) fun x2=>
   if x2 !=0 then
    some 1
   else
    av (jW e1.value) fun e2=>
    if e2 !=0 then
     some e2
    else
     if decide (1<(qJ (uz y1 e1.name (bq ((qJ y1 e1.name)+1))) e1.name))then
      some 7
     else
      BU bX dW (bq (x1+1)) (uz y1 e1.name (bq ((qJ y1 e1.name)+1)))
  else
   some 0
def GI(bX:List aB):Option Int:=
 if decide (1024<(bX.length:Int))then
  some 3
 else
  BU bX BIG 0 []
def Fg(e1:aj)(bX:List aB):Option (List aB × Int):=
 av (GI bX) fun f1=>
 if f1 !=0 then
  some ([],f1)
 else
  av (jN e1) fun f2=>
  if f2 !=0 then
   some ([],f2)
  else
   some (bX,0)
def AB(e1:Int):Option (fE aG Unit):=
 some (.bad (aG.mk e1))
def pE(s1:List aB)(name1:Str):Nat→Int→Option (fE aG ah)
 | 0,_=>none
 | dW+1,x1=>
  if decide (x1<(s1.length:Int))then
   av (idx s1 x1) fun e1=>
   if e1.name==name1 then
    some (.ok e1.value)
   else
    pE s1 name1 dW (bq (x1+1))
  else
   dR (AB 10) (fun e2=>some (.bad e2)) fun _=>
   some (.ok (ah.mk 0 false 0 ([]:Str) [] []))
def tJ(s1:List aB)(name1:Str):Option (fE aG ah):=
 pE s1 name1 BIG 0
def mJ(s1:Str):Option ah:=
 some (ah.mk 3 false 0 s1 [] [])
def iO(v1:ah)(kD:Int):Option Bool:=
 some (v1.kind==kD)
def dU(ok1:Bool)(e1:Int):Option (fE aG Unit):=
 if !ok1 then
  dR (AB e1) (fun e2=>some (.bad e2)) fun _=>
  some (.ok ())
 else
  some (.ok ())
def iE(s1:List Str)(v1:Str):Nat→Int→Option Int
 | 0,_=>none
 | dW+1,i1=>
  if decide (i1<(s1.length:Int))then
   av (idx s1 i1) fun e1=>
   if v1==e1 then
    some i1
   else
    iE s1 v1 dW (bq (i1+1))
  else
   some (-1)
def iZ(s1:List Str)(v1:Str):Option Int:=
 iE s1 v1 BIG 0
def kH(s1:List Str):Option (List Str):=
 app [] s1
def uJ(lJ:ah→Option ah)(v1:ah):Nat→Int→ah→Option ah
 | 0,_,_=>none
 | dW+1,x2,bK=>
  if decide (x2<(v1.aP.length:Int))then
   av (idx v1.aP x2) fun e1=>
   av (lJ e1) fun x3=>
   av (app bK.aP [x3]) fun x4=>
   uJ lJ v1 dW (bq (x2+1)) (ah.mk bK.kind bK.dD bK.cu bK.bJ x4 bK.keys)
  else
   some bK
def AQ(lJ:ah→Option ah)(v1:ah):Option ah:=
 av (kH v1.keys) fun x1=>
 uJ lJ v1 BIG 0 (ah.mk v1.kind v1.dD v1.cu v1.bJ [] x1)
def oG:Nat→ah→Option ah
 | 0,_=>none
 | k+1,mo=>AQ (oG k) mo
def mX(mo:ah):Option ah:=oG BIG mo
def Aj(v1:ah)(key1:Str):Option (ah × Bool):=
 av (iZ v1.keys key1) fun i1=>
 if ((v1.kind !=5)||(decide (i1<0)))||(decide ((v1.aP.length:Int)≤i1))then
  some ((ah.mk 0 false 0 ([]:Str) [] []),false)
 else
  av (idx v1.aP i1) fun e1=>
  av (mX e1) fun x1=>
  some (x1,true)
def xY(m1 key1:ah):Option (fE aG ah):=
 av (iO m1 5) fun x1=>
 av (
   if x1 then
    iO key1 3
   else
    some false) fun b1=>
 dR (dU b1 9) (fun e1=>some (.bad e1)) fun _=>
 eO (Aj m1 key1.bJ) fun x3 ok1=>
 dR (dU ok1 8) (fun e2=>some (.bad e2)) fun _=>
 some (.ok x3)
def wh(a1 i1:ah):Option (fE aG ah):=
 av (iO a1 4) fun x1=>
 av (
   if x1 then
    iO i1 2
   else
    some false) fun b1=>
 if b1 then
  dR (dU ((decide (0≤i1.cu))&&(decide (i1.cu<(a1.aP.length:Int)))) 8) (fun e1=>some (.bad e1)) fun _=>
  av (idx a1.aP i1.cu) fun e2=>
  some (.ok e2)
 else
  dR (xY a1 i1) (fun e3=>some (.bad e3)) fun x3=>
  some (.ok x3)
def AJ(name1:Str):Option Int:=
 if name1==([108,101,110]:Str)then
  some 1
 else
  if name1==([108,111,119,101,114]:Str)then
   some 1
  else
   if name1==([117,112,112,101,114]:Str)then
    some 1
   else
    if name1==([115,116,114,105,110,103]:Str)then
     some 1
    else
     if name1==([105,110,116]:Str)then
      some 1
     else
      if name1==([107,101,121,115]:Str)then
       some 1
      else
       if name1==([99,111,110,116,97,105,110,115]:Str)then
        some 2
       else
        if name1==([106,111,105,110]:Str)then
         some 2
        else
         if name1==([115,112,108,105,116]:Str)then
          some 2
         else
          if name1==([115,116,97,114,116,115,119,105,116,104]:Str)then
           some 2
          else
           if name1==([101,110,100,115,119,105,116,104]:Str)then
            some 2
           else
            if name1==([100,101,102,97,117,108,116]:Str)then
             some 2
            else
             some 0
def qy(n1:Int):Option ah:=
 some (ah.mk 2 false n1 ([]:Str) [] [])
def Ew(l1:List ah):Option ah:=
 some (ah.mk 4 false 0 ([]:Str) l1 [])
def zT(l1:List Str):Nat→Int→ah→Option ah
 | 0,_,_=>none
 | dW+1,x1,bK=>
  if decide (x1<(l1.length:Int))then
   av (idx l1 x1) fun s1=>
   av (mJ s1) fun x2=>
   av (app bK.aP [x2]) fun x3=>
   zT l1 dW (bq (x1+1)) (ah.mk bK.kind bK.dD bK.cu bK.bJ x3 bK.keys)
  else
   some bK
def Az(l1:List Str):Option ah:=
 zT l1 BIG 0 (ah.mk 4 false 0 ([]:Str) [] [])
def qw(b1:Bool):Option Str:=
 if b1 then
  some ([116,114,117,101]:Str)
 else
  some ([102,97,108,115,101]:Str)
def strconv_FormatBool(b1:Bool):Option Str:=
 qw b1
def mW(s1:Str):Nat→Int→Str→Option Str
 | 0,_,_=>none
 | dW+1,i1,b2=>
  if decide (i1<(s1.length:Int))then
   av (idx s1 i1) fun c1=>
   if ((c1.toNat:Int)==34)||((c1.toNat:Int)==92)then
    av (app b2 [92]) fun b3=>
    av (app b3 [c1]) fun b4=>
    mW s1 dW (bq (i1+1)) b4
   else
    if (c1.toNat:Int)==10 then
     av (app b2 ([92,110]:Str)) fun b5=>
     mW s1 dW (bq (i1+1)) b5
    else
     if (c1.toNat:Int)==9 then
      av (app b2 ([92,116]:Str)) fun b6=>
      mW s1 dW (bq (i1+1)) b6
     else
      if (decide (32≤(c1.toNat:Int)))&&(decide ((c1.toNat:Int)≤126))then
       av (app b2 [c1]) fun b7=>
       mW s1 dW (bq (i1+1)) b7
      else
       av (app b2 ([92,120]:Str)) fun b8=>
       av (idx ([48,49,50,51,52,53,54,55,56,57,97,98,99,100,101,102]:Str) ((c1/16).toNat:Int)) fun x1=>
       av (app b8 [x1]) fun b9=>
       av (idx ([48,49,50,51,52,53,54,55,56,57,97,98,99,100,101,102]:Str) ((c1%16).toNat:Int)) fun x2=>
       av (app b9 [x2]) fun b10=>
       mW s1 dW (bq (i1+1)) b10
  else
   app b2 [34]
def Bj(s1:Str):Option Str:=
 av (app [] [34]) fun b1=>
 mW s1 BIG 0 b1
def strings_Join(l1:List Str)(t1:Str):Option Str:=
 if l1.length≤140737488355328∧(ng l1 t1).length≤140737488355328 then some (ng l1 t1)else none
def qQ(eZ:ah→Option Str)(v1:ah):Nat→List Str→Int→Option Str
 | 0,_,_=>none
 | dW+1,aaK,i1=>
  if decide (i1<(v1.aP.length:Int))then
   av (idx v1.aP i1) fun e1=>
   if v1.kind==5 then
    av (idx v1.keys i1) fun e2=>
    av (Bj e2) fun x4=>
    av (app x4 ([58,32]:Str)) fun x5=>
    av (eZ e1) fun x6=>
    av (app x5 x6) fun x7=>
    av (app aaK ([x7]:List Str)) fun amQ=>
    qQ eZ v1 dW amQ (bq (i1+1))
   else
    av (eZ e1) fun x8=>
    av (app aaK ([x8]:List Str)) fun amP=>
    qQ eZ v1 dW amP (bq (i1+1))
  else
   av (strings_Join aaK ([44,32]:Str)) fun s3=>
   if v1.kind==5 then
    av (app ([123]:Str) s3) fun x9=>
    app x9 ([125]:Str)
   else
    av (app ([91]:Str) s3) fun NP=>
    app NP ([93]:Str)
def vI(eZ:ah→Option Str)(v1:ah):Nat→List Str→Int→Option Str
 | 0,_,_=>none
 | Xf+1,agq,i2=>
  if decide (i2<(v1.aP.length:Int))then
   av (idx v1.aP i2) fun e3=>
   av (idx v1.keys i2) fun e4=>
   av (Bj e4) fun Ua=>
   av (app Ua ([58,32]:Str)) fun Z7=>
   av (eZ e3) fun x15=>
   av (app Z7 x15) fun Z6=>
   av (app agq ([Z6]:List Str)) fun amO=>
   vI eZ v1 Xf amO (bq (i2+1))
  else
   av (strings_Join agq ([44,32]:Str)) fun s5=>
   av (app ([123]:Str) s5) fun x17=>
   app x17 ([125]:Str)
def xA(eZ:ah→Option Str)(v1:ah):Option Str:=
 if v1.kind==1 then
  strconv_FormatBool v1.dD
 else
  if v1.kind==2 then
   strconv_Itoa v1.cu
  else
   if v1.kind==3 then
    Bj v1.bJ
   else
    if v1.kind==4 then
     qQ eZ v1 BIG [] 0
    else
     if v1.kind==5 then
      vI eZ v1 BIG [] 0
     else
      some ([110,117,108,108]:Str)
def xw:Nat→ah→Option Str
 | 0,_=>none
 | k+1,mo=>xA (xw k) mo
def AP(mo:ah):Option Str:=xw BIG mo
def Ai(v1:ah):Option (Str × Int):=
 if (v1.kind==4)||(v1.kind==5)then
  some (([]:Str),9)
 else
  av (jW v1) fun e1=>
  if e1 !=0 then
   some (([]:Str),e1)
  else
   if v1.kind==0 then
    some (([]:Str),0)
   else
    if v1.kind==3 then
     some (v1.bJ,0)
    else
     av (AP v1) fun x1=>
     some (x1,0)
def rF(s1:Str)(lo1 hi1:UInt8)(Ag:Int):Nat→Int→Str→Option Str
 | 0,_,_=>none
 | dW+1,i1,b1=>
  if decide (i1<(s1.length:Int))then
   av (idx s1 i1) fun x1=>
   av (
     if decide ((lo1.toNat:Int)≤(x1.toNat:Int))then
      av (idx s1 i1) fun x2=>
      some (decide ((x2.toNat:Int)≤(hi1.toNat:Int)))
     else
      some false) fun b2=>
   if b2 then
    av (idx s1 i1) fun x3=>
    av (app b1 [(Ft.byteOf (bq ((x3.toNat:Int)+Ag)))]) fun b3=>
    rF s1 lo1 hi1 Ag dW (bq (i1+1)) b3
   else
    av (idx s1 i1) fun x4=>
    av (app b1 [x4]) fun b4=>
    rF s1 lo1 hi1 Ag dW (bq (i1+1)) b4
  else
   some b1
def yN(s1:Str)(lo1 hi1:UInt8)(Ag:Int):Option Str:=
 rF s1 lo1 hi1 Ag BIG 0 []
def vo(s1:Str):Option (Int × Bool):=
 eO (strconv_Atoi s1) fun n1 SG=>
 av (
   if SG.isSome then
    some true
   else
    av (strconv_Itoa n1) fun x1=>
    some (!(x1==s1))) fun b1=>
 if (b1||(decide (n1<(-9007199254740992))))||(decide (9007199254740992<n1))then
  some (0,false)
 else
  some (n1,true)
def JW(name1:Str)(v1:ah):Option (fE aG ah):=
 if name1==([108,101,110]:Str)then
  av (iO v1 3) fun x1=>
  av (
    if x1 then
     some true
    else
     iO v1 4) fun b1=>
  av (
    if b1 then
     some true
    else
     iO v1 5) fun b2=>
  dR (dU b2 9) (fun e1=>some (.bad e1)) fun _=>
  av (qy (bq ((v1.bJ.length:Int)+(v1.aP.length:Int)))) fun x4=>
  some (.ok x4)
 else
  if name1==([107,101,121,115]:Str)then
   av (iO v1 5) fun x5=>
   dR (dU x5 9) (fun e2=>some (.bad e2)) fun _=>
   av (Az v1.keys) fun x6=>
   some (.ok x6)
  else
   if name1==([115,116,114,105,110,103]:Str)then
    eO (Ai v1) fun t1 e3=>
    dR (dU (e3==0) e3) (fun e4=>some (.bad e4)) fun _=>
    av (mJ t1) fun x7=>
    some (.ok x7)
   else
    av (iO v1 3) fun x8=>
    dR (dU x8 9) (fun e5=>some (.bad e5)) fun _=>
    if name1==([108,111,119,101,114]:Str)then
     av (yN v1.bJ 65 90 32) fun x9=>
     av (mJ x9) fun G8=>
     some (.ok G8)
    else
     if name1==([117,112,112,101,114]:Str)then
      av (yN v1.bJ 97 122 (-32)) fun NP=>
      av (mJ NP) fun U3=>
      some (.ok U3)
     else
      eO (vo v1.bJ) fun n1 ok1=>
      dR (dU ok1 1) (fun e6=>some (.bad e6)) fun _=>
      av (qy n1) fun Ua=>
      some (.ok Ua)
def uI(b1:Bool):Option Int:=
 if b1 then
  some 1
 else
  some 0
def bZ(xR xQ:List ah)(zX:ah→ah→Option Int):Nat→Int→Option Int
 | 0,_=>none
 | dW+1,i1=>
  if decide (i1<(xR.length:Int))then
   av (idx xR i1) fun e1=>
   if decide ((xQ.length:Int)≤i1)then
    some 1
   else
    av (idx xQ i1) fun e2=>
    av (zX e1 e2) fun c1=>
    if c1 !=0 then
     some c1
    else
     bZ xR xQ zX dW (bq (i1+1))
  else
   if decide ((xR.length:Int)<(xQ.length:Int))then
    some (-1)
   else
    some 0
def bF(xR xQ:List ah)(zX:ah→ah→Option Int):Option Int:=
 bZ xR xQ zX BIG 0
def dO(xR xQ:List Str)(zX:Str→Str→Option Int):Nat→Int→Option Int
 | 0,_=>none
 | dW+1,i1=>
  if decide (i1<(xR.length:Int))then
   av (idx xR i1) fun aqj=>
   if decide ((xQ.length:Int)≤i1)then
    some 1
   else
    av (idx xQ i1) fun aqi=>
    av (zX aqj aqi) fun c1=>
    if c1 !=0 then
     some c1
    else
     dO xR xQ zX dW (bq (i1+1))
  else
   if decide ((xR.length:Int)<(xQ.length:Int))then
    some (-1)
   else
    some 0
def dF(xR xQ:List Str)(zX:Str→Str→Option Int):Option Int:=
 dO xR xQ zX BIG 0
def xB(jR:ah→ah→Option Int)(a1 b1:ah):Option Int:=
 av (cmp_Compare_int a1.kind b1.kind) fun c1=>
 if c1 !=0 then
  some c1
 else
  if a1.kind==1 then
   av (uI a1.dD) fun x1=>
   av (uI b1.dD) fun x2=>
   cmp_Compare_int x1 x2
  else
   if a1.kind==2 then
    cmp_Compare_int a1.cu b1.cu
   else
    if a1.kind==3 then
     mK a1.bJ b1.bJ
    else
     if a1.kind==4 then
      bF a1.aP b1.aP jR
     else
      if a1.kind==5 then
       av (dF a1.keys b1.keys iN) fun c2=>
       if c2 !=0 then
        some c2
       else
        bF a1.aP b1.aP jR
      else
       some 0
def iY:Nat→ah→ah→Option Int
 | 0,_,_=>none
 | k+1,tO,tN=>xB (iY k) tO tN
def wO(tO tN:ah):Option Int:=iY BIG tO tN
def mY(a1 b1:ah):Option Bool:=
 av (wO a1 b1) fun x1=>
 some (x1==0)
def pV(a1 b1:ah)(GZ:Int):Option Bool:=
 some ((a1.kind==GZ)&&(b1.kind==GZ))
def strings_Contains(s1 t1:Str):Option Bool:=
 if s1.length<4294967281 then some (lW s1 t1).isSome else none
def oP(a1 b1:ah):Nat→Int→Option (fE aG Bool)
 | 0,_=>none
 | dW+1,x2=>
  if decide (x2<(a1.aP.length:Int))then
   av (idx a1.aP x2) fun e1=>
   av (mY e1 b1) fun x3=>
   if x3 then
    some (.ok true)
   else
    oP a1 b1 dW (bq (x2+1))
  else
   some (.ok false)
def w9(a1 b1:ah):Option (fE aG Bool):=
 av (iO a1 4) fun x1=>
 if x1 then
  oP a1 b1 BIG 0
 else
  av (pV a1 b1 3) fun x4=>
  if x4 then
   av (strings_Contains a1.bJ b1.bJ) fun x5=>
   some (.ok x5)
  else
   av (iO a1 5) fun x6=>
   av (
     if x6 then
      iO b1 3
     else
      some false) fun b2=>
   dR (dU b2 9) (fun e2=>some (.bad e2)) fun _=>
   eO (Aj a1 b1.bJ) fun x8 ok1=>
   some (.ok ok1)
def fC(b1:Bool):Option ah:=
 some (ah.mk 1 b1 0 ([]:Str) [] [])
def vv(a1 b1:ah):Nat→Int→List Str→Int→Option (fE aG ah)
 | 0,_,_,_=>none
 | dW+1,n1,l1,x3=>
  if decide (x3<(a1.aP.length:Int))then
   av (idx a1.aP x3) fun e2=>
   av (iO e2 3) fun x4=>
   dR (dU x4 9) (fun e3=>some (.bad e3)) fun _=>
   av (app l1 ([e2.bJ]:List Str)) fun l2=>
   vv a1 b1 dW (bq (n1+(e2.bJ.length:Int))) l2 (bq (x3+1))
  else
   dR (dU (decide ((bq (n1+(bq ((b1.bJ.length:Int)*(if 0<(bq ((l1.length:Int)-1))then (bq ((l1.length:Int)-1))else 0)))))≤4096)) 3) (fun e4=>some (.bad e4)) fun _=>
   av (strings_Join l1 b1.bJ) fun x5=>
   av (mJ x5) fun x6=>
   some (.ok x6)
def BS(a1 b1:ah):Option (fE aG ah):=
 av (iO a1 4) fun x1=>
 av (
   if x1 then
    iO b1 3
   else
    some false) fun b2=>
 dR (dU b2 9) (fun e1=>some (.bad e1)) fun _=>
 vv a1 b1 BIG 0 [] 0
def rD(s1 yZ:Str):Option Bool:=
 if decide ((yZ.length:Int)≤(s1.length:Int))then
  av (sl s1 (bq ((s1.length:Int)-(yZ.length:Int))) (s1.length:Int)) fun x1=>
  some (x1==yZ)
 else
  some false
def strings_HasSuffix(s1 yZ:Str):Option Bool:=
 rD s1 yZ
def strings_Split(s1 t1:Str):Option (List Str):=
 if s1.length<4294967281∧t1≠[]then some (nU t1 (s1.length+1) s1)else none
def JV(name1:Str)(a1 b1:ah):Option (fE aG ah):=
 if name1==([100,101,102,97,117,108,116]:Str)then
  av (iO a1 0) fun x1=>
  if x1 then
   some (.ok b1)
  else
   some (.ok a1)
 else
  if name1==([99,111,110,116,97,105,110,115]:Str)then
   dR (w9 a1 b1) (fun e1=>some (.bad e1)) fun x2=>
   av (fC x2) fun x3=>
   some (.ok x3)
  else
   if name1==([106,111,105,110]:Str)then
    dR (BS a1 b1) (fun e2=>some (.bad e2)) fun x4=>
    some (.ok x4)
   else
    av (pV a1 b1 3) fun x5=>
    dR (dU x5 9) (fun e3=>some (.bad e3)) fun _=>
    if name1==([115,116,97,114,116,115,119,105,116,104]:Str)then
     av (strings_HasPrefix a1.bJ b1.bJ) fun x6=>
     av (fC x6) fun x7=>
     some (.ok x7)
    else
     if name1==([101,110,100,115,119,105,116,104]:Str)then
      av (strings_HasSuffix a1.bJ b1.bJ) fun x8=>
      av (fC x8) fun x9=>
      some (.ok x9)
     else
      dR (dU (!(b1.bJ==([]:Str))) 1) (fun e4=>some (.bad e4)) fun _=>
      av (strings_Split a1.bJ b1.bJ) fun l1=>
      dR (dU (decide ((l1.length:Int)≤1024)) 3) (fun e5=>some (.bad e5)) fun _=>
      av (Az l1) fun G8=>
      some (.ok G8)
def vk(v1:ah):Option (fE aG Bool):=
 av (iO v1 1) fun x1=>
 dR (dU x1 9) (fun e1=>some (.bad e1)) fun _=>
 some (.ok v1.dD)
def Eu(op1:Str)(v1:ah):Option (fE aG ah):=
 if op1==([33]:Str)then
  dR (vk v1) (fun e1=>some (.bad e1)) fun x1=>
  av (fC (!x1)) fun x2=>
  some (.ok x2)
 else
  av (iO v1 2) fun x3=>
  dR (dU x3 9) (fun e2=>some (.bad e2)) fun _=>
  av (qy (bq (0-v1.cu))) fun x4=>
  some (.ok x4)
def nO(a1 b1:ah):Option (fE aG Int):=
 av (pV a1 b1 2) fun x1=>
 av (
   if x1 then
    some true
   else
    pV a1 b1 3) fun b2=>
 dR (dU b2 9) (fun e1=>some (.bad e1)) fun _=>
 av (wO a1 b1) fun x3=>
 some (.ok x3)
def rV(n1:Int):Option (fE aG ah):=
 dR (dU ((decide ((-9007199254740992)≤n1))&&(decide (n1≤9007199254740992))) 11) (fun e1=>some (.bad e1)) fun _=>
 av (qy n1) fun x1=>
 some (.ok x1)
def GH(a1 b1:ah):Option (fE aG ah):=
 av (pV a1 b1 2) fun x1=>
 if x1 then
  dR (rV (bq (a1.cu+b1.cu))) (fun e1=>some (.bad e1)) fun x2=>
  some (.ok x2)
 else
  av (pV a1 b1 3) fun x3=>
  if x3 then
   dR (dU (decide ((bq ((a1.bJ.length:Int)+(b1.bJ.length:Int)))≤4096)) 3) (fun e2=>some (.bad e2)) fun _=>
   av (app a1.bJ b1.bJ) fun x4=>
   av (mJ x4) fun x5=>
   some (.ok x5)
  else
   av (pV a1 b1 4) fun x6=>
   dR (dU x6 9) (fun e3=>some (.bad e3)) fun _=>
   dR (dU (decide ((bq ((a1.aP.length:Int)+(b1.aP.length:Int)))≤1024)) 3) (fun e4=>some (.bad e4)) fun _=>
   av (app [] a1.aP) fun l1=>
   av (app l1 b1.aP) fun x7=>
   av (Ew x7) fun x8=>
   some (.ok x8)
def JA(n1:Int):Option (BitVec 64):=
 if decide (n1<0)then
  some (-(BitVec.ofInt 64 n1))
 else
  some (BitVec.ofInt 64 n1)
def CK(a1 b1:Int):Option fD:=
 av (JA a1) fun x1=>
 av (JA b1) fun y1=>
 av (some ((x1 &&& (4294967295:BitVec 64))*(y1 &&& (4294967295:BitVec 64)))) fun Ce=>
 av (some ((x1 >>> 32)*(y1 &&& (4294967295:BitVec 64)))) fun x2=>
 av (some ((x1 &&& (4294967295:BitVec 64))*(y1 >>> 32))) fun x3=>
 av (some ((x2+(Ce >>> 32)) &&& (4294967295:BitVec 64))) fun x4=>
 av (some (((x1 >>> 32)*(y1 >>> 32))+((x2+(Ce >>> 32)) >>> 32))) fun x5=>
 av (some (((x3+x4) <<< 32) ||| (Ce &&& (4294967295:BitVec 64)))) fun x6=>
 some (fD.mk ([(x5+((x3+x4) >>> 32)),x6]:List (BitVec 64)) ((!((decide (a1<0))==(decide (b1<0))))&&(!decide (([((x5+((x3+x4) >>> 32)).toNat:Int),(x6.toNat:Int)]:List Int)=([0,0]:List Int)))))
def sG(p1:fD):Option (Int × Bool):=
 if ((p1.half.getD 0 0).toNat:Int) !=0 then
  some (0,false)
 else
  if p1.neg&&(decide (((p1.half.getD 1 0).toNat:Int)≤9223372036854775808))then
   some ((bq ((-(p1.half.getD 1 0)).toNat:Int)),true)
  else
   if (!p1.neg)&&(decide (((p1.half.getD 1 0).toNat:Int)≤9223372036854775807))then
    some ((bq ((p1.half.getD 1 0).toNat:Int)),true)
   else
    some (0,false)
def W9(ajQ:Bool):Option Int:=
 if ajQ then
  some (-9223372036854775808)
 else
  some 9223372036854775807
def M8(a1 b1:Int):Option Int:=
 av (CK a1 b1) fun x1=>
 eO (sG x1) fun n1 ok1=>
 if ok1 then
  some n1
 else
  W9 x1.neg
def pW(op1:Str)(a1 b1:ah):Option (fE aG ah):=
 av (pV a1 b1 2) fun x1=>
 dR (dU x1 9) (fun e1=>some (.bad e1)) fun _=>
 if op1==([45]:Str)then
  dR (rV (bq (a1.cu-b1.cu))) (fun e2=>some (.bad e2)) fun x2=>
  some (.ok x2)
 else
  if op1==([42]:Str)then
   av (M8 a1.cu b1.cu) fun x3=>
   dR (rV x3) (fun e3=>some (.bad e3)) fun x4=>
   some (.ok x4)
  else
   dR (dU (b1.cu !=0) 12) (fun e4=>some (.bad e4)) fun _=>
   if op1==([47]:Str)then
    av (VW (!(b1.cu==0))) fun _=>
    dR (rV (bq ((a1.cu:Int).tdiv b1.cu))) (fun e5=>some (.bad e5)) fun x5=>
    some (.ok x5)
   else
    av (VW (!(b1.cu==0))) fun _=>
    av (qy ((a1.cu:Int).tmod b1.cu)) fun x6=>
    some (.ok x6)
def sU(bH:Int)(x1:ah):Int:=if (x1.kind==4||x1.kind==5)&&((x1.aP.length:Int)==0)then bq (bH+1)else bH
def h_(alh bH:Int)(x1:ah):Option (Bool × Int):=
 some (true,if alh<sU bH x1 then sU bH x1 else alh)
def yV(v1:ah):Option Int:=
 eO (DN h_ 0 v1 1) fun _ s1=>
 some s1
def kZ(y1 c1:aB):Option Bool:=
 some (y1.name==c1.name)
def gu(s1:List aB)(f1:aB→Option Bool):Nat→Int→Option Int
 | 0,_=>none
 | dW+1,i1=>
  if decide (i1<(s1.length:Int))then
   av (idx s1 i1) fun e1=>
   av (f1 e1) fun x1=>
   if x1 then
    some i1
   else
    gu s1 f1 dW (bq (i1+1))
  else
   some (-1)
def iU(s1:List aB)(f1:aB→Option Bool):Option Int:=
 gu s1 f1 BIG 0
def fB(s1:List aB)(f1:aB→Option Bool):Option Bool:=
 av (iU s1 f1) fun x1=>
 some (decide (0≤x1))
def Bn(iD:List aB)(i1:Int):Option Int:=
 av (idx iD i1) fun e1=>
 if (decide ((e1.name.length:Int)<1))||(decide (64<(e1.name.length:Int)))then
  some 1
 else
  av (jW e1.value) fun e2=>
  if e2 !=0 then
   some e2
  else
   av (yV e1.value) fun x1=>
   if decide (16≤x1)then
    some 13
   else
    av (sl iD 0 i1) fun x2=>
    av (fB x2 (fun z0=>kZ z0 e1)) fun x3=>
    if x3 then
     some 7
    else
     some 0
def fK(s1:List aB):Option (List aB):=
 app [] s1
def Jc(a1 b1:aB):Option Int:=
 iN a1.name b1.name
def vJ(uh:List aB):Nat→Int→ah→Option (ah × Int)
 | 0,_,_=>none
 | Xf+1,x1,bK=>
  if decide (x1<(uh.length:Int))then
   av (idx uh x1) fun e2=>
   av (app bK.keys ([e2.name]:List Str)) fun x2=>
   av (mX e2.value) fun x3=>
   av (app bK.aP [x3]) fun x4=>
   vJ uh Xf (bq (x1+1)) (ah.mk bK.kind bK.dD bK.cu bK.bJ x4 x2)
  else
   some (bK,0)
def vK(iD:List aB):Nat→Int→Option (ah × Int)
 | 0,_=>none
 | dW+1,i1=>
  if decide (i1<(iD.length:Int))then
   av (Bn iD i1) fun e1=>
   if e1 !=0 then
    some ((ah.mk 0 false 0 ([]:Str) [] []),e1)
   else
    vK iD dW (bq (i1+1))
  else
   av (fK iD) fun Qt=>
   av (Vi (fun x=>x.name) Qt) fun uh=>
   vJ uh BIG 0 (ah.mk 5 false 0 ([]:Str) [] [])
def Dk(iD:List aB):Option (ah × Int):=
 if decide (1024<(iD.length:Int))then
  some ((ah.mk 0 false 0 ([]:Str) [] []),3)
 else
  vK iD BIG 0
def uq(aZ cB:List aB→aj→Option (fE aG ah))(b_:List aB→List aj→Option (fE aG (List ah)))(bT bO:List aB→aj→Option (fE aG ah))(s1:List aB)(e1:aj):Option (fE aG ah):=
 if e1.kind==1 then
  some (.ok e1.value)
 else
  if e1.kind==2 then
   dR (tJ s1 e1.name) (fun e2=>some (.bad e2)) fun x1=>
   some (.ok x1)
  else
   if e1.kind==3 then
    av (idx e1.args 0) fun e3=>
    dR (aZ s1 e3) (fun e4=>some (.bad e4)) fun x2=>
    av (mJ e1.name) fun x3=>
    dR (xY x2 x3) (fun e5=>some (.bad e5)) fun x4=>
    some (.ok x4)
   else
    if e1.kind==4 then
     av (idx e1.args 0) fun e6=>
     dR (aZ s1 e6) (fun e7=>some (.bad e7)) fun x5=>
     av (idx e1.args 1) fun e8=>
     dR (aZ s1 e8) (fun e9=>some (.bad e9)) fun x6=>
     dR (wh x5 x6) (fun e10=>some (.bad e10)) fun x7=>
     some (.ok x7)
    else
     if e1.kind==5 then
      dR (cB s1 e1) (fun e11=>some (.bad e11)) fun x8=>
      some (.ok x8)
     else
      if e1.kind==6 then
       av (idx e1.args 0) fun e12=>
       dR (aZ s1 e12) (fun e13=>some (.bad e13)) fun x9=>
       dR (Eu e1.name x9) (fun e14=>some (.bad e14)) fun G8=>
       some (.ok G8)
      else
       if e1.kind==7 then
        dR (bT s1 e1) (fun e15=>some (.bad e15)) fun NP=>
        some (.ok NP)
       else
        if e1.kind==8 then
         av (idx e1.args 0) fun e16=>
         dR (aZ s1 e16) (fun e17=>some (.bad e17)) fun U3=>
         dR (vk U3) (fun e18=>some (.bad e18)) fun Ua=>
         if Ua then
          av (idx e1.args 1) fun e19=>
          dR (aZ s1 e19) (fun e20=>some (.bad e20)) fun Z7=>
          some (.ok Z7)
         else
          av (idx e1.args 2) fun e21=>
          dR (aZ s1 e21) (fun e22=>some (.bad e22)) fun x15=>
          some (.ok x15)
        else
         if e1.kind==9 then
          dR (b_ s1 e1.args) (fun e23=>some (.bad e23)) fun Z6=>
          av (Ew Z6) fun x17=>
          av (jW x17) fun x18=>
          dR (dU (x18==0) 13) (fun e24=>some (.bad e24)) fun _=>
          some (.ok x17)
         else
          dR (bO s1 e1) (fun e25=>some (.bad e25)) fun x19=>
          some (.ok x19)
def qx(aZ cB:List aB→aj→Option (fE aG ah))(b_:List aB→List aj→Option (fE aG (List ah)))(bT bO:List aB→aj→Option (fE aG ah))(s1:List aB)(e1:aj):Option (fE aG ah):=
 av (AJ e1.name) fun n1=>
 dR (dU (decide (0<n1)) 10) (fun e2=>some (.bad e2)) fun _=>
 dR (dU ((e1.args.length:Int)==n1) 1) (fun e3=>some (.bad e3)) fun _=>
 dR (b_ s1 e1.args) (fun e4=>some (.bad e4)) fun args1=>
 if n1==1 then
  av (idx args1 0) fun e5=>
  dR (JW e1.name e5) (fun e6=>some (.bad e6)) fun x1=>
  some (.ok x1)
 else
  av (idx args1 0) fun e7=>
  av (idx args1 1) fun e8=>
  dR (JV e1.name e7 e8) (fun e9=>some (.bad e9)) fun x2=>
  some (.ok x2)
def nG(aZ:List aB→aj→Option (fE aG ah))(s1:List aB)(l1:List aj):Nat→List ah→Int→Option (fE aG (List ah))
 | 0,_,_=>none
 | dW+1,bK,x1=>
  if decide (x1<(l1.length:Int))then
   av (idx l1 x1) fun e1=>
   dR (aZ s1 e1) (fun e2=>some (.bad e2)) fun x2=>
   av (app bK [x2]) fun yQ=>
   nG aZ s1 l1 dW yQ (bq (x1+1))
  else
   some (.ok bK)
def AA(aZ cB:List aB→aj→Option (fE aG ah))(b_:List aB→List aj→Option (fE aG (List ah)))(bT bO:List aB→aj→Option (fE aG ah))(s1:List aB)(l1:List aj):Option (fE aG (List ah)):=
 nG aZ s1 l1 BIG [] 0
def nQ(aZ cB:List aB→aj→Option (fE aG ah))(b_:List aB→List aj→Option (fE aG (List ah)))(bT bO:List aB→aj→Option (fE aG ah))(s1:List aB)(e1:aj):Option (fE aG ah):=
 av (idx e1.args 0) fun e2=>
 dR (aZ s1 e2) (fun e3=>some (.bad e3)) fun x1=>
 if (e1.name==([38,38]:Str))||(e1.name==([124,124]:Str))then
  dR (vk x1) (fun e4=>some (.bad e4)) fun x2=>
  if x2==(e1.name==([124,124]:Str))then
   some (.ok x1)
  else
   av (idx e1.args 1) fun e5=>
   dR (aZ s1 e5) (fun e6=>some (.bad e6)) fun x3=>
   dR (vk x3) (fun e7=>some (.bad e7)) fun x4=>
   av (fC x4) fun x5=>
   some (.ok x5)
 else
  av (idx e1.args 1) fun e8=>
  dR (aZ s1 e8) (fun e9=>some (.bad e9)) fun x6=>
  if e1.name==([61,61]:Str)then
   av (mY x1 x6) fun x7=>
   av (fC x7) fun x8=>
   some (.ok x8)
  else
   if e1.name==([33,61]:Str)then
    av (mY x1 x6) fun x9=>
    av (fC (!x9)) fun G8=>
    some (.ok G8)
   else
    if e1.name==([60]:Str)then
     dR (nO x1 x6) (fun e10=>some (.bad e10)) fun NP=>
     av (fC (decide (NP<0))) fun U3=>
     some (.ok U3)
    else
     if e1.name==([60,61]:Str)then
      dR (nO x1 x6) (fun e11=>some (.bad e11)) fun Ua=>
      av (fC (decide (Ua≤0))) fun Z7=>
      some (.ok Z7)
     else
      if e1.name==([62]:Str)then
       dR (nO x1 x6) (fun e12=>some (.bad e12)) fun x15=>
       av (fC (decide (0<x15))) fun Z6=>
       some (.ok Z6)
      else
       if e1.name==([62,61]:Str)then
        dR (nO x1 x6) (fun e13=>some (.bad e13)) fun x17=>
        av (fC (decide (0≤x17))) fun x18=>
        some (.ok x18)
       else
        if e1.name==([43]:Str)then
         dR (GH x1 x6) (fun e14=>some (.bad e14)) fun x19=>
         some (.ok x19)
        else
         dR (pW e1.name x1 x6) (fun e15=>some (.bad e15)) fun x20=>
         some (.ok x20)
def l8(e1:aj)(x1:List ah):Nat→List aB→Int→Option (fE aG ah)
 | 0,_,_=>none
 | dW+1,iD,i1=>
  if decide (i1<(x1.length:Int))then
   av (idx x1 i1) fun e3=>
   av (idx e1.keys i1) fun e4=>
   av (app iD [(aB.mk e4 e3)]) fun FY=>
   l8 e1 x1 dW FY (bq (i1+1))
  else
   eO (Dk iD) fun x2 nH=>
   dR (dU (nH==0) nH) (fun e5=>some (.bad e5)) fun _=>
   some (.ok x2)
def ni(aZ cB:List aB→aj→Option (fE aG ah))(b_:List aB→List aj→Option (fE aG (List ah)))(bT bO:List aB→aj→Option (fE aG ah))(s1:List aB)(e1:aj):Option (fE aG ah):=
 dR (b_ s1 e1.args) (fun e2=>some (.bad e2)) fun x1=>
 l8 e1 x1 BIG [] 0
mutual
def dw:Nat→List aB→aj→Option (fE aG ah)
 | 0,_,_=>none
 | k+1,rR,gB=>uq (dw k) (eG k) (fq k) (dQ k) (dJ k) rR gB
def eG:Nat→List aB→aj→Option (fE aG ah)
 | 0,_,_=>none
 | k+1,rR,gB=>qx (dw k) (eG k) (fq k) (dQ k) (dJ k) rR gB
def fq:Nat→List aB→List aj→Option (fE aG (List ah))
 | 0,_,_=>none
 | k+1,rR,NQ=>AA (dw k) (eG k) (fq k) (dQ k) (dJ k) rR NQ
def dQ:Nat→List aB→aj→Option (fE aG ah)
 | 0,_,_=>none
 | k+1,rR,gB=>nQ (dw k) (eG k) (fq k) (dQ k) (dJ k) rR gB
def dJ:Nat→List aB→aj→Option (fE aG ah)
 | 0,_,_=>none
 | k+1,rR,gB=>ni (dw k) (eG k) (fq k) (dQ k) (dJ k) rR gB
end
def Ch(rR:List aB)(gB:aj):Option (fE aG ah):=dw BIG rR gB
def Qd(rR:List aB)(gB:aj):Option (fE aG ah):=eG BIG rR gB
def SF(rR:List aB)(NQ:List aj):Option (fE aG (List ah)):=fq BIG rR NQ
def Nt(rR:List aB)(gB:aj):Option (fE aG ah):=dQ BIG rR gB
def L6(rR:List aB)(gB:aj):Option (fE aG ah):=dJ BIG rR gB
def zU(s1:List aB)(e1:aj):Option (ah × Int):=
 dR (Ch s1 e1) (fun f1=>some ((ah.mk 0 false 0 ([]:Str) [] []),f1.code)) fun v1=>
 some (v1,0)
def w_(mU:ah→Option ah)(v1:ah):Nat→Int→ah→Option ah
 | 0,_,_=>none
 | dW+1,x1,bK=>
  if decide (x1<(v1.aP.length:Int))then
   av (idx v1.aP x1) fun e1=>
   av (mU e1) fun x2=>
   av (app bK.aP [x2]) fun x3=>
   w_ mU v1 dW (bq (x1+1)) (ah.mk bK.kind bK.dD bK.cu bK.bJ x3 bK.keys)
  else
   av (app bK.keys v1.keys) fun x4=>
   some (ah.mk bK.kind bK.dD bK.cu bK.bJ bK.aP x4)
def CW(mU:ah→Option ah)(v1:ah):Option ah:=
 w_ mU v1 BIG 0 (ah.mk v1.kind v1.dD v1.cu v1.bJ [] [])
def qz:Nat→ah→Option ah
 | 0,_=>none
 | k+1,mo=>CW (qz k) mo
def xZ(mo:ah):Option ah:=qz BIG mo
def Dw(e1:aj)(bX:List aB):Option (ah × Int):=
 eO (Fg e1 bX) fun s1 f1=>
 if f1 !=0 then
  some ((ah.mk 0 false 0 ([]:Str) [] []),f1)
 else
  eO (zU s1 e1) fun x1 f2=>
  av (xZ x1) fun x2=>
  some (x2,f2)
def tC(p1:aO)(bX:List aB):Option (Str × Int):=
 if !p1.QE then
  some (p1.text,0)
 else
  eO (Dw p1.expr bX) fun x1 nH=>
  if nH !=0 then
   some (([]:Str),nH)
  else
   Ai x1
def mH(bX:List aB)(ps1:List aO):Nat→Int→Str→Option (Str × Int)
 | 0,_,_=>none
 | dW+1,x2,b1=>
  if decide (x2<(ps1.length:Int))then
   av (idx ps1 x2) fun e1=>
   eO (tC e1 bX) fun t1 acP=>
   if acP !=0 then
    some (([]:Str),acP)
   else
    av (app b1 t1) fun b2=>
    mH bX ps1 dW (bq (x2+1)) b2
  else
   if decide (4096<(b1.length:Int))then
    some (([]:Str),3)
   else
    some (b1,0)
def tZ(s1:Str)(bX:List aB):Option (Str × Int):=
 lN (oo s1) fun ps1 x1 nH=>
 if nH !=0 then
  some (([]:Str),nH)
 else
  av (GI bX) fun GJ=>
  if GJ !=0 then
   some (([]:Str),GJ)
  else
   mH bX ps1 BIG 0 []
def l7{β:Type}(y:β→aj→Option (Bool × β))(ps1:List aO):Nat→β→Int→Option β
 | 0,_,_=>none
 | dW+1,s1,i1=>
  if decide (i1<(ps1.length:Int))then
   av (idx ps1 i1) fun p1=>
   if p1.QE then
    eO (y s1 p1.expr) fun b1 s2=>
    if !b1 then
     some s2
    else
     l7 y ps1 dW s2 (bq (i1+1))
   else
    l7 y ps1 dW s1 (bq (i1+1))
  else
   some s1
def sJ{β:Type}(y:β→aj→Option (Bool × β))(s1:β)(ps1:List aO):Option β:=l7 y ps1 BIG s1 0
def Ic(JD:List Str):Option (List Str):=
 if (JD.all fun s=>decide (s.length<4611686018427387904))&&decide (JD.length≤rM)then some (agG JD)else none
def oQ(go:aj→List Str→Option (List Str))(e1:aj):Nat→List Str→Int→Option (List Str)
 | 0,_,_=>none
 | dW+1,bK,i1=>
  if decide (i1<(e1.args.length:Int))then
   av (idx e1.args i1) fun a1=>
   av (go a1 bK) fun yQ=>
   oQ go e1 dW yQ (bq (i1+1))
  else
   some bK
def Cj(go:aj→List Str→Option (List Str))(e1:aj)(bK:List Str):Option (List Str):=
 if e1.kind==2 then
  av (app bK [e1.name]) fun yQ=>
  oQ go e1 BIG yQ 0
 else
  oQ go e1 BIG bK 0
def xJ:Nat→aj→List Str→Option (List Str)
 | 0,_,_=>none
 | k+1,e1,bK=>Cj (xJ k) e1 bK
def J7(e1:aj):Option (List Str):=
 av (xJ BIG e1 []) fun bK=>
 Ic bK
def zM(a1:List aj)(x1:aj):Option (Bool × List aj):=
 av (app a1 [x1]) fun a2=>
 some (true,a2)
def Ib(s1:Str):Option (List Str × Int):=
 lN (oo s1) fun ps1 _ nH=>
 if nH !=0 then
  some ([],nH)
 else
  av (sJ zM [] ps1) fun a1=>
  av (J7 (aj.mk 9 ([]:Str) (ah.mk 0 false 0 ([]:Str) [] []) a1 [])) fun x1=>
  some (x1,0)
def LA(v1:ah):Option Str:=
 av (jW v1) fun x1=>
 if x1 !=0 then
  some ([]:Str)
 else
  AP v1
def HY(e1:aj):Option Int:=
 if e1.kind==8 then
  some 1
 else
  if e1.kind==7 then
   fG e1.name
  else
   if e1.kind==6 then
    some 7
   else
    if ((e1.kind==1)&&(e1.value.kind==2))&&(decide (e1.value.cu<0))then
     some 7
    else
     some 8
def Cb(mI:aj→Option Str)(gZ:aj→Int→Option Str)(e1:aj):Option Str:=
 if e1.kind==1 then
  LA e1.value
 else
  if e1.kind==2 then
   some e1.name
  else
   if e1.kind==3 then
    av (idx e1.args 0) fun e2=>
    av (gZ e2 8) fun x2=>
    av (app x2 ([46]:Str)) fun x3=>
    app x3 e1.name
   else
    if e1.kind==4 then
     av (idx e1.args 0) fun e3=>
     av (gZ e3 8) fun x5=>
     av (app x5 ([91]:Str)) fun x6=>
     av (idx e1.args 1) fun e4=>
     av (gZ e4 1) fun x7=>
     av (app x6 x7) fun x8=>
     app x8 ([93]:Str)
    else
     if e1.kind==5 then
      none
     else
      if e1.kind==6 then
       av (idx e1.args 0) fun e5=>
       av (gZ e5 7) fun G8=>
       app e1.name G8
      else
       if e1.kind==7 then
        av (fG e1.name) fun n1=>
        if n1==4 then
         av (idx e1.args 0) fun e6=>
         av (gZ e6 (bq (n1+1))) fun U3=>
         av (app U3 ([32]:Str)) fun Ua=>
         av (app Ua e1.name) fun Z7=>
         av (app Z7 ([32]:Str)) fun x15=>
         av (idx e1.args 1) fun e7=>
         av (gZ e7 (bq (n1+1))) fun Z6=>
         app x15 Z6
        else
         av (idx e1.args 0) fun e8=>
         av (gZ e8 n1) fun x18=>
         av (app x18 ([32]:Str)) fun x19=>
         av (app x19 e1.name) fun x20=>
         av (app x20 ([32]:Str)) fun x21=>
         av (idx e1.args 1) fun e9=>
         av (gZ e9 (bq (n1+1))) fun x22=>
         app x21 x22
       else
        if e1.kind==8 then
         av (idx e1.args 0) fun e10=>
         av (gZ e10 2) fun x24=>
         av (app x24 ([32,63,32]:Str)) fun x25=>
         av (idx e1.args 1) fun e11=>
         av (gZ e11 1) fun x26=>
         av (app x25 x26) fun x27=>
         av (app x27 ([32,58,32]:Str)) fun x28=>
         av (idx e1.args 2) fun e12=>
         av (gZ e12 1) fun x29=>
         app x28 x29
        else
         if e1.kind==9 then
          none
         else
          none
def HZ(mI:aj→Option Str)(gZ:aj→Int→Option Str)(e1:aj)(Kt:Int):Option Str:=
 av (HY e1) fun x1=>
 if decide (x1<Kt)then
  av (mI e1) fun x2=>
  av (app ([40]:Str) x2) fun x3=>
  app x3 ([41]:Str)
 else
  mI e1
mutual
def xE:Nat→aj→Option Str
 | 0,_=>none
 | k+1,gB=>Cb (xE k) (CG k) gB
def CG:Nat→aj→Int→Option Str
 | 0,_,_=>none
 | k+1,gB,kQ=>HZ (xE k) (CG k) gB kQ
end
def K9(gB:aj):Option Str:=xE BIG gB
def aaL(gB:aj)(kQ:Int):Option Str:=CG BIG gB kQ
def Jw(e1:aj):Option Str:=
 av (jN e1) fun x1=>
 if x1 !=0 then
  some ([]:Str)
 else
  K9 e1
def strings_ReplaceAll(s1 ajO new1:Str):Option Str:=
 if s1.length<4294967281∧ajO=[36]∧new1=[36,36]then some (s1.flatMap fun x=>if x==36 then [36,36]else [x])else none
def u7(ps1:List aO):Nat→Int→Str→Option Str
 | 0,_,_=>none
 | dW+1,x1,b1=>
  if decide (x1<(ps1.length:Int))then
   av (idx ps1 x1) fun e1=>
   if e1.QE then
    av (Jw e1.expr) fun x2=>
    av (app ([36,123]:Str) x2) fun x3=>
    av (app x3 ([125]:Str)) fun x4=>
    av (app b1 x4) fun b2=>
    u7 ps1 dW (bq (x1+1)) b2
   else
    av (strings_ReplaceAll e1.text ([36]:Str) ([36,36]:Str)) fun x5=>
    av (app b1 x5) fun b3=>
    u7 ps1 dW (bq (x1+1)) b3
  else
   some b1
def JK(ps1:List aO):Option Str:=
 u7 ps1 BIG 0 []
def yA(kD:Int):Option Str:=
 if (decide (kD<0))||(decide (8≤kD))then
  some ([]:Str)
 else
  idx ([([97,110,121]:Str),([110,117,108,108]:Str),([98,111,111,108]:Str),([105,110,116]:Str),([115,116,114,105,110,103]:Str),([108,105,115,116]:Str),([109,97,112]:Str),([110,101,118,101,114]:Str)]:List Str) kD
def lg(kD:Int):Option Bool:=
 some ((kD==5)||(kD==6))
def kG:Nat→Int→aM→Option Int
 | 0,_,_=>none
 | dW+1,bH,t2=>
  if decide (16<bH)then
   some 13
  else
   av (yA t2.kind) fun x1=>
   av (
     if x1==([]:Str)then
      some true
     else
      av (lg t2.kind) fun x2=>
      some (x2&&((t2.elem.length:Int) !=1))) fun b1=>
   av (
     if b1 then
      some true
     else
      av (lg t2.kind) fun x3=>
      some ((!x3)&&((t2.elem.length:Int) !=0))) fun b2=>
   if b2 then
    some 1
   else
    av (lg t2.kind) fun x4=>
    if !x4 then
     some 0
    else
     av (idx t2.elem 0) fun e1=>
     kG dW (bq (bH+1)) e1
def nT(t1:aM):Option Int:=
 kG BIG 1 t1
def Da(bX:List bU):Nat→Int→List (Str × Int)→Option Int
 | 0,_,_=>none
 | dW+1,x1,y1=>
  if decide (x1<(bX.length:Int))then
   av (idx bX x1) fun e1=>
   av (jN (aj.mk 2 e1.name (ah.mk 0 false 0 ([]:Str) [] []) [] [])) fun x2=>
   if x2 !=0 then
    some 1
   else
    av (nT e1.F3) fun e2=>
    if e2 !=0 then
     some e2
    else
     if decide (1<(qJ (uz y1 e1.name (bq ((qJ y1 e1.name)+1))) e1.name))then
      some 7
     else
      Da bX dW (bq (x1+1)) (uz y1 e1.name (bq ((qJ y1 e1.name)+1)))
  else
   some 0
def KQ(bX:List bU):Option Int:=
 if decide (1024<(bX.length:Int))then
  some 3
 else
  Da bX BIG 0 []
def jK(kD:Int):Option aM:=
 some (aM.mk kD [])
def DX(Cg:aM→Option aM)(t1:aM):Option aM:=
 av (lg t1.kind) fun x1=>
 if !x1 then
  jK t1.kind
 else
  none
def DW:Nat→aM→Option aM
 | 0,_=>none
 | k+1,Wq=>DX (DW k) Wq
def G_(Wq:aM):Option aM:=DW BIG Wq
def FE(Es:aM→aM→Option aM)(a1 b1:aM):Option aM:=
 if a1.kind==7 then
  G_ b1
 else
  if b1.kind==7 then
   G_ a1
  else
   if a1.kind !=b1.kind then
    jK 0
   else
    av (lg a1.kind) fun x4=>
    if x4 then
     none
    else
     jK a1.kind
def FD:Nat→aM→aM→Option aM
 | 0,_,_=>none
 | k+1,tO,tN=>FE (FD k) tO tN
def Je(tO tN:aM):Option aM:=FD BIG tO tN
def yY(lK:ah→Option aM)(v1:ah):Nat→Int→aM→Option aM
 | 0,_,_=>none
 | dW+1,x6,apw=>
  if decide (x6<(v1.aP.length:Int))then
   av (idx v1.aP x6) fun e1=>
   av (lK e1) fun x7=>
   av (Je apw x7) fun x8=>
   yY lK v1 dW (bq (x6+1)) x8
  else
   if v1.kind==4 then
    none
   else
    none
def FI(lK:ah→Option aM)(v1:ah):Option aM:=
 if v1.kind==0 then
  jK 1
 else
  if v1.kind==1 then
   jK 2
  else
   if v1.kind==2 then
    jK 3
   else
    if v1.kind==3 then
     jK 4
    else
     av (jK 7) fun x5=>
     yY lK v1 BIG 0 x5
def FH:Nat→ah→Option aM
 | 0,_=>none
 | k+1,mo=>FI (FH k) mo
def Po(mo:ah):Option aM:=FH BIG mo
def NY(v1:ah):Option aM:=
 av (jW v1) fun x1=>
 if x1 !=0 then
  jK 0
 else
  Po v1
def uy(bX:List bU)(name1:Str):Nat→Int→Option (aM × Int)
 | 0,_=>none
 | dW+1,x1=>
  if decide (x1<(bX.length:Int))then
   av (idx bX x1) fun e1=>
   if e1.name==name1 then
    some (e1.F3,0)
   else
    uy bX name1 dW (bq (x1+1))
  else
   some ((aM.mk 0 []),10)
def ED(bX:List bU)(name1:Str):Option (aM × Int):=
 uy bX name1 BIG 0
def lM(kD:Int):Option aM:=
 some (aM.mk kD [])
def nk(kD:Int)(c1 c2:aM):Option Bool:=
 none
def j_(t1:aM):Option Bool:=
 some ((t1.kind==0)||(t1.kind==7))
def jT(a1 b1:aM)(kD:Int):Option Bool:=
 av (j_ a1) fun x1=>
 av (
   if x1||(a1.kind==kD)then
    av (j_ b1) fun x2=>
    some (x2||(b1.kind==kD))
   else
    some false) fun b2=>
 some (b2&&((a1.kind==kD)||(b1.kind==kD)))
def Jf(a1 b1:aM):Option Bool:=
 av (nT a1) fun x1=>
 if x1==0 then
  av (nT b1) fun x2=>
  some (x2==0)
 else
  some false
def Jg(a1 b1:aM):Option aM:=
 av (Jf a1 b1) fun x1=>
 if !x1 then
  jK 0
 else
  Je a1 b1
def OU(a1 b1:aM):Option (aM × Int):=
 av (j_ a1) fun x1=>
 av (
   if x1 then
    j_ b1
   else
    some false) fun b2=>
 if b2 then
  if (a1.kind==0)||(b1.kind==0)then
   av (lM 0) fun x3=>
   some (x3,0)
  else
   av (lM 7) fun x4=>
   some (x4,0)
 else
  av (jT a1 b1 3) fun x5=>
  if x5 then
   av (lM 3) fun x6=>
   some (x6,0)
  else
   av (jT a1 b1 4) fun x7=>
   if x7 then
    av (lM 4) fun x8=>
    some (x8,0)
   else
    av (jT a1 b1 5) fun x9=>
    if x9 then
     none
    else
     some ((aM.mk 0 []),9)
def Io(op1:Str)(a1 b1:aM):Option (aM × Int):=
 if op1==([38,38]:Str)then
  av (nk 2 a1 b1) fun x1=>
  if x1 then
   av (lM 2) fun x2=>
   some (x2,0)
  else
   some ((aM.mk 0 []),9)
 else
  if op1==([124,124]:Str)then
   av (nk 2 a1 b1) fun x3=>
   if x3 then
    av (lM 2) fun x4=>
    some (x4,0)
   else
    some ((aM.mk 0 []),9)
  else
   if op1==([61,61]:Str)then
    av (lM 2) fun x5=>
    some (x5,0)
   else
    if op1==([33,61]:Str)then
     av (lM 2) fun x6=>
     some (x6,0)
    else
     if op1==([60]:Str)then
      av (j_ a1) fun x7=>
      av (
        if x7 then
         j_ b1
        else
         some false) fun b2=>
      av (
        if b2 then
         some true
        else
         jT a1 b1 3) fun b3=>
      av (
        if b3 then
         some true
        else
         jT a1 b1 4) fun b4=>
      if b4 then
       av (lM 2) fun NP=>
       some (NP,0)
      else
       some ((aM.mk 0 []),9)
     else
      if op1==([60,61]:Str)then
       av (j_ a1) fun U3=>
       av (
         if U3 then
          j_ b1
         else
          some false) fun b5=>
       av (
         if b5 then
          some true
         else
          jT a1 b1 3) fun b6=>
       av (
         if b6 then
          some true
         else
          jT a1 b1 4) fun b7=>
       if b7 then
        av (lM 2) fun Z6=>
        some (Z6,0)
       else
        some ((aM.mk 0 []),9)
      else
       if op1==([62]:Str)then
        av (j_ a1) fun x17=>
        av (
          if x17 then
           j_ b1
          else
           some false) fun b8=>
        av (
          if b8 then
           some true
          else
           jT a1 b1 3) fun b9=>
        av (
          if b9 then
           some true
          else
           jT a1 b1 4) fun b10=>
        if b10 then
         av (lM 2) fun x21=>
         some (x21,0)
        else
         some ((aM.mk 0 []),9)
       else
        if op1==([62,61]:Str)then
         av (j_ a1) fun x22=>
         av (
           if x22 then
            j_ b1
           else
            some false) fun b11=>
         av (
           if b11 then
            some true
           else
            jT a1 b1 3) fun b12=>
         av (
           if b12 then
            some true
           else
            jT a1 b1 4) fun b13=>
         if b13 then
          av (lM 2) fun x26=>
          some (x26,0)
         else
          some ((aM.mk 0 []),9)
        else
         if op1==([45]:Str)then
          av (nk 3 a1 b1) fun x27=>
          if x27 then
           av (lM 3) fun x28=>
           some (x28,0)
          else
           some ((aM.mk 0 []),9)
         else
          if op1==([42]:Str)then
           av (nk 3 a1 b1) fun x29=>
           if x29 then
            av (lM 3) fun x30=>
            some (x30,0)
           else
            some ((aM.mk 0 []),9)
          else
           if op1==([47]:Str)then
            av (nk 3 a1 b1) fun x31=>
            if x31 then
             av (lM 3) fun x32=>
             some (x32,0)
            else
             some ((aM.mk 0 []),9)
           else
            if op1==([37]:Str)then
             av (nk 3 a1 b1) fun x33=>
             if x33 then
              av (lM 3) fun x34=>
              some (x34,0)
             else
              some ((aM.mk 0 []),9)
            else
             if op1==([43]:Str)then
              OU a1 b1
             else
              some ((aM.mk 0 []),9)
def Im(kF:aj→List bU→Option (aM × Int))(vY:List aj→List bU→Option (List aM × Int))(e1:aj)(bX:List bU):Option (aM × Int):=
 if e1.kind==5 then
  none
 else
  eO (vY e1.args bX) fun iX f1=>
  if f1 !=0 then
   some ((aM.mk 0 []),f1)
  else
   if e1.kind==1 then
    av (NY e1.value) fun x1=>
    some (x1,0)
   else
    if e1.kind==2 then
     ED bX e1.name
    else
     if e1.kind==3 then
      none
     else
      if e1.kind==4 then
       none
      else
       if e1.kind==6 then
        none
       else
        if e1.kind==7 then
         av (idx iX 0) fun e2=>
         av (idx iX 1) fun e3=>
         Io e1.name e2 e3
        else
         if e1.kind==8 then
          none
         else
          if e1.kind==9 then
           none
          else
           none
def C_(kF:aj→List bU→Option (aM × Int))(l1:List aj)(bX:List bU):Nat→List aM→Int→Option (List aM × Int)
 | 0,_,_=>none
 | dW+1,bK,x1=>
  if decide (x1<(l1.length:Int))then
   av (idx l1 x1) fun e1=>
   eO (kF e1 bX) fun x2 f1=>
   if f1 !=0 then
    some ([],f1)
   else
    av (app bK [x2]) fun yQ=>
    C_ kF l1 bX dW yQ (bq (x1+1))
  else
   some (bK,0)
def J6(kF:aj→List bU→Option (aM × Int))(vY:List aj→List bU→Option (List aM × Int))(l1:List aj)(bX:List bU):Option (List aM × Int):=
 C_ kF l1 bX BIG [] 0
mutual
def C9:Nat→aj→List bU→Option (aM × Int)
 | 0,_,_=>none
 | k+1,gB,fZ=>Im (C9 k) (Fp k) gB fZ
def Fp:Nat→List aj→List bU→Option (List aM × Int)
 | 0,_,_=>none
 | k+1,NQ,fZ=>J6 (C9 k) (Fp k) NQ fZ
end
def S9(gB:aj)(fZ:List bU):Option (aM × Int):=C9 BIG gB fZ
def aeo(NQ:List aj)(fZ:List bU):Option (List aM × Int):=Fp BIG NQ fZ
def Ma(e1:aj)(bX:List bU):Option (aM × Int):=
 av (KQ bX) fun f1=>
 if f1 !=0 then
  some ((aM.mk 0 []),f1)
 else
  av (jN e1) fun f2=>
  if f2 !=0 then
   some ((aM.mk 0 []),f2)
  else
   eO (S9 e1 bX) fun x1 f3=>
   if f3 !=0 then
    some ((aM.mk 0 []),f3)
   else
    av (lM 7) fun x2=>
    av (Jg x1 x2) fun x3=>
    some (x3,0)
def zN(bX:List bU)(s1:Option Int)(x1:aj):Option (Bool × Option Int):=
 match s1 with
 | some _=>none
 | none=>
  eO (Ma x1 bX) fun t1 nH=>
  if nH !=0 then
   some (false,some nH)
  else
   if (t1.kind==5)||(t1.kind==6)then
    some (false,some 9)
   else
    some (true,none)
def CR(s1:Str)(bX:List bU):Option Int:=
 lN (oo s1) fun ps1 _ nH=>
 if nH !=0 then
  some nH
 else
  av (KQ bX) fun GJ=>
  if GJ !=0 then
   some GJ
  else
   av (sJ (zN bX) none ps1) fun s2=>
   some (s2.getD 0)
def Gx:Option Bool:=
 av (app ([97]:Str) ([36]:List UInt8)) fun x1=>
 av (app x1 ([36]:List UInt8)) fun x2=>
 av (app x2 ([98]:Str)) fun x3=>
 av Ni fun x4=>
 av (app x3 x4) fun x5=>
 av (app x5 ([120,32,43,32,49,125,99]:Str)) fun s1=>
 lN (oo s1) fun l1 x6 e1=>
 eO (tZ s1 [(aB.mk ([120]:Str) (ah.mk 2 false 2 ([]:Str) [] []))]) fun t1 f1=>
 eO (Ib s1) fun n1 g1=>
 av Ni fun x7=>
 av (app ([97]:Str) x7) fun x8=>
 av (app x8 ([49,32,43,125]:Str)) fun x9=>
 lN (oo x9) fun G8 bV hx1=>
 av (
   if (e1 !=0)||((l1.length:Int) !=3)then
    some true
   else
    av (idx l1 0) fun e2=>
    av (app ([97]:Str) ([36]:List UInt8)) fun NP=>
    av (app NP ([98]:Str)) fun U3=>
    some (!(e2.text==U3))) fun b1=>
 av (
   if b1 then
    some true
   else
    av (idx l1 1) fun e3=>
    some (!e3.QE)) fun b2=>
 av (
   if b2 then
    some true
   else
    av (idx l1 2) fun e4=>
    some (!(e4.text==([99]:Str)))) fun b3=>
 av (
   if b3||(f1 !=0)then
    some true
   else
    av (app ([97]:Str) ([36]:List UInt8)) fun Ua=>
    av (app Ua ([98,51,99]:Str)) fun Z7=>
    some (!(t1==Z7))) fun b4=>
 if b4 then
  some false
 else
  av (
    if (g1==0)&&((n1.length:Int)==1)then
     av (idx n1 0) fun e5=>
     some (e5==([120]:Str))
    else
     some false) fun b5=>
  av (
    if (b5&&(bV==6))&&(hx1==4)then
     av (JK l1) fun x15=>
     some (x15==s1)
    else
     some false) fun b6=>
  av (
    if b6 then
     av (CR s1 [(bU.mk ([120]:Str) (aM.mk 3 []))]) fun Z6=>
     some (Z6==0)
    else
     some false) fun b7=>
  if b7 then
   av (CR s1 []) fun x17=>
   some (x17==10)
  else
   some false
def xS(l:List aO):Bool:=
 match l.getLast? with
 | some p=>p.QE
 | none=>true
def zh(l:List aO):Str:=
 match l.getLast? with
 | some p=>p.text
 | none=>[]
def EN(l:List aO)(t:Str):List aO:=
 match l.getLast? with
 | some p=>l.dropLast++[aO.mk t p.QE p.expr]
 | none=>l
def D5(l1:List aO)(c1:UInt8):Option (List aO):=
 if l1.length≤rM then
  if ((l1.length:Int)==0)||xS l1 then
   app l1 [(aO.mk [c1] false (aj.mk 0 ([]:Str) (ah.mk 0 false 0 ([]:Str) [] []) [] []))]
  else
   av (app (zh l1) [c1]) fun t1=>
   some (EN l1 t1)
 else
  none
def qE(s1:Str):Nat→Int→Option Int
 | 0,_=>none
 | dW+1,at2=>
  av (
    if decide (at2<(s1.length:Int))then
     av (idx s1 at2) fun x1=>
     some ((x1.toNat:Int) !=34)
    else
     some false) fun b1=>
  if b1 then
   av (idx s1 at2) fun x2=>
   if (x2.toNat:Int)==92 then
    qE s1 dW (bq ((bq (at2+1))+1))
   else
    qE s1 dW (bq (at2+1))
  else
   some (bq (at2+1))
def Ho(s1:Str)(bV:Int):Option Int:=
 qE s1 BIG (bq (bV+1))
def jA(s1:Str):Nat→Int→Int→Option Int
 | 0,_,_=>none
 | dW+1,at2,iG=>
  if decide (at2<(s1.length:Int))then
   av (idx s1 at2) fun x1=>
   if (x1.toNat:Int)==34 then
    av (Ho s1 at2) fun at3=>
    jA s1 dW at3 iG
   else
    if (x1.toNat:Int)==123 then
     jA s1 dW (bq (at2+1)) (bq (iG+1))
    else
     if (x1.toNat:Int)==125 then
      if iG==0 then
       some at2
      else
       jA s1 dW (bq (at2+1)) (bq (iG-1))
     else
      jA s1 dW (bq (at2+1)) iG
  else
   some (-1)
def EO(s1:Str)(bV:Int):Option Int:=
 jA s1 BIG bV 0
def oZ(bn:Str):Nat→Int→Bool→Option Int
 | 0,_,_=>none
 | dW+1,at2,Zw=>
  av (
    if decide (at2<(bn.length:Int))then
     av (idx bn at2) fun x1=>
     some ((x1.toNat:Int) !=10)
    else
     some false) fun b1=>
  av (
    if b1 then
     av (
       if Zw then
        some true
       else
        av (idx bn at2) fun x2=>
        some ((x2.toNat:Int)==32)) fun b3=>
     av (
       if b3 then
        some true
       else
        av (idx bn at2) fun x3=>
        some ((x3.toNat:Int)==9)) fun b4=>
     if b4 then
      some true
     else
      av (idx bn at2) fun x4=>
      some ((x4.toNat:Int)==35)
    else
     some false) fun b2=>
  if b2 then
   av (
     if Zw then
      some true
     else
      av (idx bn at2) fun x5=>
      some ((x5.toNat:Int)==35)) fun b6=>
   oZ bn dW (bq (at2+1)) b6
  else
   some at2
def qd(bn:Str)(bV:Int):Option Int:=
 oZ bn BIG bV false
def pU(c1:UInt8):Option Bool:=
 some ((decide (48≤(c1.toNat:Int)))&&(decide ((c1.toNat:Int)≤57)))
def tX(bn:Str)(bV:Int):Nat→Int→Option Int
 | 0,_=>none
 | dW+1,n1=>
  av (
    if decide ((bq (bV+n1))<(bn.length:Int))then
     av (idx bn (bq (bV+n1))) fun x1=>
     pU x1
    else
     some false) fun b1=>
  if b1 then
   tX bn bV dW (bq (n1+1))
  else
   some n1
def Eb(bn:Str)(bV:Int):Option Int:=
 tX bn bV BIG 0
def Au(c1:UInt8):Option Bool:=
 some ((((decide (97≤(c1.toNat:Int)))&&(decide ((c1.toNat:Int)≤122)))||((decide (65≤(c1.toNat:Int)))&&(decide ((c1.toNat:Int)≤90))))||((c1.toNat:Int)==95))
def yG(bn:Str)(bV:Int):Nat→Int→Option Int
 | 0,_=>none
 | dW+1,n1=>
  av (
    if decide ((bq (bV+n1))<(bn.length:Int))then
     av (idx bn (bq (bV+n1))) fun x1=>
     av (Au x1) fun x2=>
     if x2 then
      some true
     else
      av (idx bn (bq (bV+n1))) fun x3=>
      pU x3
    else
     some false) fun b1=>
  if b1 then
   yG bn bV dW (bq (n1+1))
  else
   some n1
def Gh(bn:Str)(bV:Int):Option Int:=
 yG bn bV BIG 0
def uQ(s1:Str):Nat→Int→Int→Option (Int × Bool)
 | 0,_,_=>none
 | dW+1,n1,i1=>
  if decide (i1<(s1.length:Int))then
   av (idx s1 i1) fun x2=>
   av (pU x2) fun x3=>
   if !x3 then
    some (0,false)
   else
    av (idx s1 i1) fun x4=>
    uQ s1 dW (bq ((bq ((bq (10*n1))+(x4.toNat:Int)))-48)) (bq (i1+1))
  else
   some (n1,(decide (n1≤9007199254740992)))
def xD(s1:Str):Option (Int × Bool):=
 av (
   if (s1==([]:Str))||(decide (16<(s1.length:Int)))then
    some true
   else
    if decide (1<(s1.length:Int))then
     av (idx s1 0) fun x1=>
     some ((x1.toNat:Int)==48)
    else
     some false) fun b1=>
 if b1 then
  some (0,false)
 else
  uQ s1 BIG 0 0
def Ea(bn:Str)(bV:Int):Option (ay × Int × Int):=
 av (Eb bn bV) fun n1=>
 av (Gh bn bV) fun x1=>
 av (
   if decide (n1<x1)then
    some true
   else
    if decide (1<n1)then
     av (idx bn bV) fun x2=>
     some ((x2.toNat:Int)==48)
    else
     some false) fun b1=>
 if b1 then
  some ((ay.mk 0 ([]:Str) 0),0,5)
 else
  av (sl bn bV (bq (bV+n1))) fun x3=>
  eO (xD x3) fun x4 ok1=>
  if !ok1 then
   some ((ay.mk 0 ([]:Str) 0),0,2)
  else
   av (sl bn bV (bq (bV+n1))) fun x5=>
   some ((ay.mk 2 x5 0),n1,0)
def Kw(c1:UInt8):Option Int:=
 av (pU c1) fun x1=>
 if x1 then
  some (bq ((c1.toNat:Int)-48))
 else
  if (decide (97≤(c1.toNat:Int)))&&(decide ((c1.toNat:Int)≤102))then
   some (bq ((c1.toNat:Int)-87))
  else
   if (decide (65≤(c1.toNat:Int)))&&(decide ((c1.toNat:Int)≤70))then
    some (bq ((c1.toNat:Int)-55))
   else
    some (-1)
def lG(bn:Str)(bV:Int):Nat→Int→Int→Option (UInt8 × Int × Int)
 | 0,_,_=>none
 | dW+1,n1,i1=>
  if decide (i1<(bq (bV+4)))then
   if decide ((bn.length:Int)≤i1)then
    some (0,0,4)
   else
    av (idx bn i1) fun x1=>
    av (Kw x1) fun x2=>
    if decide (x2<0)then
     some (0,0,5)
    else
     av (idx bn i1) fun x3=>
     av (Kw x3) fun x4=>
     lG bn bV dW (bq ((bq (16*n1))+x4)) (bq (i1+1))
  else
   some ((Ft.byteOf n1),4,0)
def BA(bn:Str)(bV:Int):Option (UInt8 × Int × Int):=
 lG bn bV BIG 0 (bq (bV+2))
def oI(bn:Str)(bV:Int):Option (UInt8 × Int × Int):=
 av (idx bn bV) fun x1=>
 if decide ((x1.toNat:Int)<32)then
  some (0,0,5)
 else
  av (idx bn bV) fun x2=>
  if (x2.toNat:Int) !=92 then
   av (idx bn bV) fun x3=>
   some (x3,1,0)
  else
   if decide ((bn.length:Int)≤(bq (bV+1)))then
    some (0,0,4)
   else
    av (idx bn (bq (bV+1))) fun x4=>
    if (x4.toNat:Int)==34 then
     av (idx bn (bq (bV+1))) fun x5=>
     some (x5,2,0)
    else
     if (x4.toNat:Int)==92 then
      av (idx bn (bq (bV+1))) fun x6=>
      some (x6,2,0)
     else
      if (x4.toNat:Int)==110 then
       some (10,2,0)
      else
       if (x4.toNat:Int)==116 then
        some (9,2,0)
       else
        if (x4.toNat:Int)==120 then
         BA bn bV
        else
         some (0,0,5)
def yH(bn:Str)(bV:Int):Nat→List UInt8→Int→Option (ay × Int × Int)
 | 0,_,_=>none
 | dW+1,b1,i1=>
  if decide (i1<(bn.length:Int))then
   av (idx bn i1) fun x1=>
   if (x1.toNat:Int)==34 then
    if decide (4096<(b1.length:Int))then
     some ((ay.mk 0 ([]:Str) 0),0,3)
    else
     some ((ay.mk 3 b1 0),(bq ((bq (i1+1))-bV)),0)
   else
    lN (oI bn i1) fun c1 n1 e1=>
    if e1 !=0 then
     some ((ay.mk 0 ([]:Str) 0),0,e1)
    else
     av (app b1 ([c1]:List UInt8)) fun b2=>
     yH bn bV dW b2 (bq (i1+n1))
  else
   some ((ay.mk 0 ([]:Str) 0),0,4)
def Jq(bn:Str)(bV:Int):Option (ay × Int × Int):=
 yH bn bV BIG [] (bq (bV+1))
def gM(bn:Str)(bV:Int):Nat→Int→Option Int
 | 0,_=>none
 | Xf+1,i2=>
  if decide (i2<19)then
   av (idx bn bV) fun x3=>
   av (idx ([60,62,43,45,42,47,37,33,63,58,46,44,61,40,41,91,93,123,125]:Str) i2) fun x4=>
   if (x3.toNat:Int)==(x4.toNat:Int)then
    some 1
   else
    gM bn bV Xf (bq (i2+1))
  else
   some 0
def gy(bn:Str)(bV:Int):Nat→Int→Option Int
 | 0,_=>none
 | dW+1,i1=>
  if decide (i1<12)then
   av (
     if decide ((bq (bV+2))≤(bn.length:Int))then
      av (sl bn bV (bq (bV+2))) fun x1=>
      av (sl ([124,124,38,38,61,61,33,61,60,61,62,61]:Str) i1 (bq (i1+2))) fun x2=>
      some (x1==x2)
     else
      some false) fun b1=>
   if b1 then
    some 2
   else
    gy bn bV dW (bq (i1+2))
  else
   gM bn bV BIG 0
def zn(bn:Str)(bV:Int):Option Int:=
 gy bn bV BIG 0
def Gi(bn:Str)(bV:Int):Option (ay × Int × Int):=
 av (idx bn bV) fun x1=>
 av (pU x1) fun x2=>
 if x2 then
  Ea bn bV
 else
  av (idx bn bV) fun x6=>
  if (x6.toNat:Int)==34 then
   Jq bn bV
  else
   av (Gh bn bV) fun n1=>
   if decide (0<n1)then
    if decide (64<n1)then
     some ((ay.mk 0 ([]:Str) 0),0,3)
    else
     av (sl bn bV (bq (bV+n1))) fun G8=>
     some ((ay.mk 1 G8 0),n1,0)
   else
    av (zn bn bV) fun n2=>
    if n2==0 then
     some ((ay.mk 0 ([]:Str) 0),0,5)
    else
     av (sl bn bV (bq (bV+n2))) fun NP=>
     some ((ay.mk 4 NP 0),n2,0)
def sD(iG:Int)(t1:ay):Option Int:=
 if (t1.kind==4)&&((t1.text==([40]:Str))||(t1.text==([91]:Str)))then
  some (bq (iG+1))
 else
  if ((t1.kind==4)&&((t1.text==([41]:Str))||(t1.text==([93]:Str))))&&(decide (0<iG))then
   some (bq (iG-1))
  else
   some iG
def lq(bn:Str):Nat→List ay→Int→Int→Option (List ay × Int × Int)
 | 0,_,_,_=>none
 | dW+1,bK,iG,at2=>
  if decide (at2<(bn.length:Int))then
   av (idx bn at2) fun x1=>
   if (x1.toNat:Int) !=10 then
    lN (Gi bn at2) fun x2 GZ e1=>
    if e1 !=0 then
     some ([],at2,e1)
    else
     av (
       if x2.kind !=5 then
        some true
       else
        if iG==0 then
         if (bK.length:Int)==0 then
          some true
         else
          av (idx bK (bq ((bK.length:Int)-1))) fun e2=>
          some (e2.kind !=5)
        else
         some false) fun b1=>
     if b1 then
      av (app bK [(ay.mk x2.kind x2.text at2)]) fun yQ=>
      av (sD iG (ay.mk x2.kind x2.text at2)) fun YS=>
      av (qd bn (bq (at2+GZ))) fun at3=>
      lq bn dW yQ YS at3
     else
      av (sD iG (ay.mk x2.kind x2.text at2)) fun aoY=>
      av (qd bn (bq (at2+GZ))) fun at4=>
      lq bn dW bK aoY at4
   else
    av (
      if (5:Int) !=5 then
       some true
      else
       if iG==0 then
        if (bK.length:Int)==0 then
         some true
        else
         av (idx bK (bq ((bK.length:Int)-1))) fun e3=>
         some (e3.kind !=5)
       else
        some false) fun b4=>
    if b4 then
     av (app bK [(ay.mk 5 ([]:Str) at2)]) fun YQ=>
     av (sD iG (ay.mk 5 ([]:Str) at2)) fun aoX=>
     av (qd bn (bq (at2+1))) fun at5=>
     lq bn dW YQ aoX at5
    else
     av (sD iG (ay.mk 5 ([]:Str) at2)) fun aoW=>
     av (qd bn (bq (at2+1))) fun at6=>
     lq bn dW bK aoW at6
  else
   some (bK,0,0)
def uP(bn:Str):Option (List ay × Int × Int):=
 if decide (65536<(bn.length:Int))then
  some ([],0,3)
 else
  av (qd bn 0) fun bV=>
  lq bn BIG [] 0 bV
def qV(iX:List ay)(bV:Int)(s1:Str):Option Bool:=
 av (
   if decide (bV<(iX.length:Int))then
    av (idx iX bV) fun e1=>
    some (e1.kind==4)
   else
    some false) fun b1=>
 if b1 then
  av (idx iX bV) fun e2=>
  some (e2.text==s1)
 else
  some false
def uM(v1:ah):Option aj:=
 some (aj.mk 1 ([]:Str) v1 [] [])
def BF(s1:Str):Nat→Int→Option Bool
 | 0,_=>none
 | dW+1,i1=>
  if decide (i1<(s1.length:Int))then
   av (idx s1 i1) fun x1=>
   av (Au x1) fun x2=>
   av (
     if !x2 then
      if i1==0 then
       some true
      else
       av (idx s1 i1) fun x3=>
       av (pU x3) fun x4=>
       some (!x4)
     else
      some false) fun b1=>
   if b1 then
    some false
   else
    BF s1 dW (bq (i1+1))
  else
   some ((decide (1≤(s1.length:Int)))&&(decide ((s1.length:Int)≤64)))
def Gj(s1:Str):Option Bool:=
 BF s1 BIG 0
def qW(s1:Str):Option Bool:=
 av (Gj s1) fun x1=>
 some (((x1&&(!(s1==([116,114,117,101]:Str))))&&(!(s1==([102,97,108,115,101]:Str))))&&(!(s1==([110,117,108,108]:Str))))
def MW(t1:ay):Option Bool:=
 av (
   if t1.kind==1 then
    Gj t1.text
   else
    some false) fun b1=>
 some (b1||((t1.kind==3)&&(decide ((t1.text.length:Int)≤4096))))
def lV(iX:List ay)(bV:Int):Option Int:=
 if decide ((iX.length:Int)≤bV)then
  some 4
 else
  some 5
def sw(op1:Str):Option Int:=
 if op1==([124,124]:Str)then
  some 2
 else
  if op1==([38,38]:Str)then
   some 3
  else
   if op1==([61,61]:Str)then
    some 4
   else
    if op1==([33,61]:Str)then
     some 4
    else
     if op1==([60]:Str)then
      some 4
     else
      if op1==([60,61]:Str)then
       some 4
      else
       if op1==([62]:Str)then
        some 4
       else
        if op1==([62,61]:Str)then
         some 4
        else
         if op1==([43]:Str)then
          some 5
         else
          if op1==([45]:Str)then
           some 5
          else
           if op1==([42]:Str)then
            some 6
           else
            if op1==([47]:Str)then
             some 6
            else
             if op1==([37]:Str)then
              some 6
             else
              some 0
def xC(bB:List ay→Int→Option (aj × Int × Int))(cO:List ay→Int→Int→Option (aj × Int × Int))(gG gW iI iH:List ay→Int→Option (aj × Int × Int))(gX:List ay→Int→Str→Bool→Option (List aj × List Str × Int × Int))(fA:List ay→Int→Option (aj × Int × Int))(iX:List ay)(bV:Int):Option (aj × Int × Int):=
 lN (cO iX bV 2) fun x1 at2 e1=>
 av (
   if e1 !=0 then
    some true
   else
    av (qV iX at2 ([63]:Str)) fun x2=>
    some (!x2)) fun b1=>
 if b1 then
  some (x1,at2,e1)
 else
  lN (bB iX (bq (at2+1))) fun x3 at3 e2=>
  if e2 !=0 then
   some ((aj.mk 0 ([]:Str) (ah.mk 0 false 0 ([]:Str) [] []) [] []),at3,e2)
  else
   av (qV iX at3 ([58]:Str)) fun x4=>
   if !x4 then
    av (lV iX at3) fun x5=>
    some ((aj.mk 0 ([]:Str) (ah.mk 0 false 0 ([]:Str) [] []) [] []),at3,x5)
   else
    lN (bB iX (bq (at3+1))) fun x6 at4 e3=>
    some ((aj.mk 8 ([]:Str) (ah.mk 0 false 0 ([]:Str) [] []) [x1,x3,x6] []),at4,e3)
def jM(cO:List ay→Int→Int→Option (aj × Int × Int))(iX:List ay)(nA:Int):Nat→Int→Int→Int→aj→Option (aj × Int × Int)
 | 0,_,_,_,_=>none
 | dW+1,at3,e2,n1,alk=>
  av (
    if (e2==0)&&(decide (at3<(iX.length:Int)))then
     av (idx iX at3) fun e3=>
     some (e3.kind==4)
    else
     some false) fun b1=>
  av (
    if b1 then
     av (idx iX at3) fun e4=>
     av (sw e4.text) fun x5=>
     some (x5==nA)
    else
     some false) fun b2=>
  if b2&&((n1==0)||(nA !=4))then
   lN (cO iX (bq (at3+1)) (bq (nA+1))) fun x6 kN f1=>
   av (idx iX at3) fun e5=>
   jM cO iX nA dW kN f1 (bq (n1+1)) (aj.mk 7 e5.text (ah.mk 0 false 0 ([]:Str) [] []) [alk,x6] [])
  else
   some (alk,at3,e2)
def sV(bB:List ay→Int→Option (aj × Int × Int))(cO:List ay→Int→Int→Option (aj × Int × Int))(gG gW iI iH:List ay→Int→Option (aj × Int × Int))(gX:List ay→Int→Str→Bool→Option (List aj × List Str × Int × Int))(fA:List ay→Int→Option (aj × Int × Int))(iX:List ay)(bV nA:Int):Option (aj × Int × Int):=
 if nA==7 then
  gG iX bV
 else
  lN (cO iX bV (bq (nA+1))) fun x4 at2 e1=>
  jM cO iX nA BIG at2 e1 0 x4
def EP(bB:List ay→Int→Option (aj × Int × Int))(cO:List ay→Int→Int→Option (aj × Int × Int))(gG gW iI iH:List ay→Int→Option (aj × Int × Int))(gX:List ay→Int→Str→Bool→Option (List aj × List Str × Int × Int))(fA:List ay→Int→Option (aj × Int × Int))(iX:List ay)(bV:Int):Option (aj × Int × Int):=
 av (qV iX bV ([33]:Str)) fun x1=>
 av (
   if !x1 then
    av (qV iX bV ([45]:Str)) fun x2=>
    some (!x2)
   else
    some false) fun b1=>
 if b1 then
  gW iX bV
 else
  lN (gG iX (bq (bV+1))) fun x6 kN e1=>
  av (idx iX bV) fun e2=>
  some ((aj.mk 6 e2.text (ah.mk 0 false 0 ([]:Str) [] []) [x6] []),kN,e1)
def nY(bB:List ay→Int→Option (aj × Int × Int))(iX:List ay)(e1:Int):Nat→Int→aj→Option (aj × Int × Int)
 | 0,_,_=>none
 | dW+1,at3,x2=>
  av (
    if e1==0 then
     av (qV iX at3 ([46]:Str)) fun x3=>
     if x3 then
      some true
     else
      qV iX at3 ([91]:Str)
    else
     some false) fun b1=>
  if b1 then
   av (qV iX at3 ([46]:Str)) fun x5=>
   if x5 then
    av (
      if decide ((iX.length:Int)≤(bq (at3+1)))then
       some true
      else
       av (idx iX (bq (at3+1))) fun e2=>
       some (e2.kind !=1)) fun b3=>
    av (
      if b3 then
       some true
      else
       av (idx iX (bq (at3+1))) fun e3=>
       av (qW e3.text) fun x6=>
       some (!x6)) fun b4=>
    if b4 then
     av (lV iX (bq (at3+1))) fun x7=>
     some ((aj.mk 0 ([]:Str) (ah.mk 0 false 0 ([]:Str) [] []) [] []),(bq (at3+1)),x7)
    else
     av (idx iX (bq (at3+1))) fun e4=>
     nY bB iX e1 dW (bq ((bq (at3+1))+1)) (aj.mk 3 e4.text (ah.mk 0 false 0 ([]:Str) [] []) [x2] [])
   else
    lN (bB iX (bq (at3+1))) fun x8 kN f1=>
    if f1 !=0 then
     some ((aj.mk 0 ([]:Str) (ah.mk 0 false 0 ([]:Str) [] []) [] []),kN,f1)
    else
     av (qV iX kN ([93]:Str)) fun x9=>
     if !x9 then
      av (lV iX kN) fun G8=>
      some ((aj.mk 0 ([]:Str) (ah.mk 0 false 0 ([]:Str) [] []) [] []),kN,G8)
     else
      nY bB iX e1 dW (bq (kN+1)) (aj.mk 4 ([]:Str) (ah.mk 0 false 0 ([]:Str) [] []) [x2,x8] [])
  else
   some (x2,at3,e1)
def ES(bB:List ay→Int→Option (aj × Int × Int))(cO:List ay→Int→Int→Option (aj × Int × Int))(gG gW iI iH:List ay→Int→Option (aj × Int × Int))(gX:List ay→Int→Str→Bool→Option (List aj × List Str × Int × Int))(fA:List ay→Int→Option (aj × Int × Int))(iX:List ay)(bV:Int):Option (aj × Int × Int):=
 lN (iI iX bV) fun x1 at2 e1=>
 nY bB iX e1 BIG at2 x1
def Hr(bB:List ay→Int→Option (aj × Int × Int))(cO:List ay→Int→Int→Option (aj × Int × Int))(gG gW iI iH:List ay→Int→Option (aj × Int × Int))(gX:List ay→Int→Str→Bool→Option (List aj × List Str × Int × Int))(fA:List ay→Int→Option (aj × Int × Int))(iX:List ay)(bV:Int):Option (aj × Int × Int):=
 if decide ((iX.length:Int)≤bV)then
  some ((aj.mk 0 ([]:Str) (ah.mk 0 false 0 ([]:Str) [] []) [] []),bV,4)
 else
  av (idx iX bV) fun e1=>
  if e1.kind==2 then
   eO (xD e1.text) fun n1 ok1=>
   if ok1 then
    av (uM (ah.mk 2 false n1 ([]:Str) [] [])) fun x1=>
    some (x1,(bq (bV+1)),0)
   else
    some ((aj.mk 0 ([]:Str) (ah.mk 0 false 0 ([]:Str) [] []) [] []),bV,5)
  else
   if e1.kind==3 then
    if decide ((e1.text.length:Int)≤4096)then
     av (uM (ah.mk 3 false 0 e1.text [] [])) fun x2=>
     some (x2,(bq (bV+1)),0)
    else
     some ((aj.mk 0 ([]:Str) (ah.mk 0 false 0 ([]:Str) [] []) [] []),bV,5)
   else
    if e1.kind==1 then
     iH iX bV
    else
     if e1.kind==4 then
      fA iX bV
     else
      some ((aj.mk 0 ([]:Str) (ah.mk 0 false 0 ([]:Str) [] []) [] []),bV,5)
def D8(bB:List ay→Int→Option (aj × Int × Int))(cO:List ay→Int→Int→Option (aj × Int × Int))(gG gW iI iH:List ay→Int→Option (aj × Int × Int))(gX:List ay→Int→Str→Bool→Option (List aj × List Str × Int × Int))(fA:List ay→Int→Option (aj × Int × Int))(iX:List ay)(bV:Int):Option (aj × Int × Int):=
 av (idx iX bV) fun e1=>
 if e1.text==([110,117,108,108]:Str)then
  av (uM (ah.mk 0 false 0 ([]:Str) [] [])) fun x1=>
  some (x1,(bq (bV+1)),0)
 else
  if e1.text==([116,114,117,101]:Str)then
   av (uM (ah.mk 1 (e1.text==([116,114,117,101]:Str)) 0 ([]:Str) [] [])) fun x2=>
   some (x2,(bq (bV+1)),0)
  else
   if e1.text==([102,97,108,115,101]:Str)then
    av (uM (ah.mk 1 (e1.text==([116,114,117,101]:Str)) 0 ([]:Str) [] [])) fun x3=>
    some (x3,(bq (bV+1)),0)
   else
    av (qW e1.text) fun x4=>
    if !x4 then
     some ((aj.mk 0 ([]:Str) (ah.mk 0 false 0 ([]:Str) [] []) [] []),bV,5)
    else
     av (qV iX (bq (bV+1)) ([40]:Str)) fun x5=>
     if !x5 then
      some ((aj.mk 2 e1.text (ah.mk 0 false 0 ([]:Str) [] []) [] []),(bq (bV+1)),0)
     else
      Lj (gX iX (bq (bV+2)) ([41]:Str) false) fun l1 x6 kN e2=>
      some ((aj.mk 5 e1.text (ah.mk 0 false 0 ([]:Str) [] []) l1 []),kN,e2)
def qc(bB:List ay→Int→Option (aj × Int × Int))(iX:List ay)(rJ:Str)(vw:Bool):Nat→Int→List aj→List Str→Option (List aj × List Str × Int × Int)
 | 0,_,_,_=>none
 | dW+1,at2,l1,um=>
  if vw then
   av (
     if decide ((iX.length:Int)≤at2)then
      some true
     else
      av (idx iX at2) fun e1=>
      av (MW e1) fun x2=>
      some (!x2)) fun b1=>
   if b1 then
    av (lV iX at2) fun x3=>
    some ([],[],at2,x3)
   else
    av (idx iX at2) fun e2=>
    av (app um ([e2.text]:List Str)) fun alm=>
    av (qV iX (bq (at2+1)) ([58]:Str)) fun x4=>
    if !x4 then
     av (lV iX (bq (at2+1))) fun x5=>
     some ([],[],(bq (at2+1)),x5)
    else
     lN (bB iX (bq ((bq (at2+1))+1))) fun x6 kN e3=>
     if e3 !=0 then
      some ([],[],kN,e3)
     else
      av (app l1 [x6]) fun l2=>
      av (qV iX kN rJ) fun x7=>
      if x7 then
       some (l2,alm,(bq (kN+1)),0)
      else
       av (qV iX kN ([44]:Str)) fun x8=>
       if !x8 then
        av (lV iX kN) fun x9=>
        some ([],[],kN,x9)
       else
        qc bB iX rJ vw dW (bq (kN+1)) l2 alm
  else
   lN (bB iX at2) fun G8 Gv e4=>
   if e4 !=0 then
    some ([],[],Gv,e4)
   else
    av (app l1 [G8]) fun l3=>
    av (qV iX Gv rJ) fun NP=>
    if NP then
     some (l3,um,(bq (Gv+1)),0)
    else
     av (qV iX Gv ([44]:Str)) fun U3=>
     if !U3 then
      av (lV iX Gv) fun Ua=>
      some ([],[],Gv,Ua)
     else
      qc bB iX rJ vw dW (bq (Gv+1)) l3 um
def D9(bB:List ay→Int→Option (aj × Int × Int))(cO:List ay→Int→Int→Option (aj × Int × Int))(gG gW iI iH:List ay→Int→Option (aj × Int × Int))(gX:List ay→Int→Str→Bool→Option (List aj × List Str × Int × Int))(fA:List ay→Int→Option (aj × Int × Int))(iX:List ay)(bV:Int)(rJ:Str)(vw:Bool):Option (List aj × List Str × Int × Int):=
 av (qV iX bV rJ) fun x1=>
 if x1 then
  some ([],[],(bq (bV+1)),0)
 else
  qc bB iX rJ vw BIG bV [] []
def zk(bB:List ay→Int→Option (aj × Int × Int))(cO:List ay→Int→Int→Option (aj × Int × Int))(gG gW iI iH:List ay→Int→Option (aj × Int × Int))(gX:List ay→Int→Str→Bool→Option (List aj × List Str × Int × Int))(fA:List ay→Int→Option (aj × Int × Int))(iX:List ay)(bV:Int):Option (aj × Int × Int):=
 av (idx iX bV) fun e1=>
 if e1.text==([40]:Str)then
  lN (bB iX (bq (bV+1))) fun x1 kN e2=>
  av (
    if e2==0 then
     av (qV iX kN ([41]:Str)) fun x2=>
     some (!x2)
    else
     some false) fun b1=>
  if b1 then
   av (lV iX kN) fun e3=>
   if e3 !=0 then
    some ((aj.mk 0 ([]:Str) (ah.mk 0 false 0 ([]:Str) [] []) [] []),kN,e3)
   else
    some (x1,(bq (kN+1)),0)
  else
   if e2 !=0 then
    some ((aj.mk 0 ([]:Str) (ah.mk 0 false 0 ([]:Str) [] []) [] []),kN,e2)
   else
    some (x1,(bq (kN+1)),0)
 else
  if e1.text==([91]:Str)then
   Lj (gX iX (bq (bV+1)) ([93]:Str) false) fun l1 x3 Gv e4=>
   some ((aj.mk 9 ([]:Str) (ah.mk 0 false 0 ([]:Str) [] []) l1 []),Gv,e4)
  else
   if e1.text==([123]:Str)then
    Lj (gX iX (bq (bV+1)) ([125]:Str) true) fun l2 um ao1 e5=>
    some ((aj.mk 10 ([]:Str) (ah.mk 0 false 0 ([]:Str) [] []) l2 um),ao1,e5)
   else
    some ((aj.mk 0 ([]:Str) (ah.mk 0 false 0 ([]:Str) [] []) [] []),bV,5)
mutual
def dH:Nat→List ay→Int→Option (aj × Int × Int)
 | 0,_,_=>none
 | k+1,eT,eX=>xC (dH k) (dY k) (jh k) (jX k) (lF k) (mF k) (iK k) (jD k) eT eX
def dY:Nat→List ay→Int→Int→Option (aj × Int × Int)
 | 0,_,_,_=>none
 | k+1,eT,eX,kP=>sV (dH k) (dY k) (jh k) (jX k) (lF k) (mF k) (iK k) (jD k) eT eX kP
def jh:Nat→List ay→Int→Option (aj × Int × Int)
 | 0,_,_=>none
 | k+1,eT,eX=>EP (dH k) (dY k) (jh k) (jX k) (lF k) (mF k) (iK k) (jD k) eT eX
def jX:Nat→List ay→Int→Option (aj × Int × Int)
 | 0,_,_=>none
 | k+1,eT,eX=>ES (dH k) (dY k) (jh k) (jX k) (lF k) (mF k) (iK k) (jD k) eT eX
def lF:Nat→List ay→Int→Option (aj × Int × Int)
 | 0,_,_=>none
 | k+1,eT,eX=>Hr (dH k) (dY k) (jh k) (jX k) (lF k) (mF k) (iK k) (jD k) eT eX
def mF:Nat→List ay→Int→Option (aj × Int × Int)
 | 0,_,_=>none
 | k+1,eT,eX=>D8 (dH k) (dY k) (jh k) (jX k) (lF k) (mF k) (iK k) (jD k) eT eX
def iK:Nat→List ay→Int→Str→Bool→Option (List aj × List Str × Int × Int)
 | 0,_,_,_,_=>none
 | k+1,eT,eX,mE,mD=>D9 (dH k) (dY k) (jh k) (jX k) (lF k) (mF k) (iK k) (jD k) eT eX mE mD
def jD:Nat→List ay→Int→Option (aj × Int × Int)
 | 0,_,_=>none
 | k+1,eT,eX=>zk (dH k) (dY k) (jh k) (jX k) (lF k) (mF k) (iK k) (jD k) eT eX
end
def FJ(eT:List ay)(eX:Int):Option (aj × Int × Int):=dH BIG eT eX
def Un(eT:List ay)(eX kP:Int):Option (aj × Int × Int):=dY BIG eT eX kP
def adz(eT:List ay)(eX:Int):Option (aj × Int × Int):=jh BIG eT eX
def adA(eT:List ay)(eX:Int):Option (aj × Int × Int):=jX BIG eT eX
def af8(eT:List ay)(eX:Int):Option (aj × Int × Int):=lF BIG eT eX
def af6(eT:List ay)(eX:Int):Option (aj × Int × Int):=mF BIG eT eX
def af7(eT:List ay)(eX:Int)(mE:Str)(mD:Bool):Option (List aj × List Str × Int × Int):=iK BIG eT eX mE mD
def WQ(eT:List ay)(eX:Int):Option (aj × Int × Int):=jD BIG eT eX
def zm(oz:aj→Option Int)(e1:aj):Nat→Int→Int→Option Int
 | 0,_,_=>none
 | dW+1,n1,i1=>
  if decide (i1<(e1.args.length:Int))then
   av (idx e1.args i1) fun e2=>
   av (oz e2) fun x1=>
   zm oz e1 dW (bq (n1+x1)) (bq (i1+1))
  else
   some n1
def ET(oz:aj→Option Int)(e1:aj):Option Int:=
 zm oz e1 BIG 1 0
def uO:Nat→aj→Option Int
 | 0,_=>none
 | k+1,gB=>ET (uO k) gB
def Kv(gB:aj):Option Int:=uO BIG gB
def Gf(e1:aj):Option Bool:=
 if e1.kind==1 then
  some ((e1.args.length:Int)==0)
 else
  if e1.kind==2 then
   some ((e1.args.length:Int)==0)
  else
   if e1.kind==3 then
    some ((e1.args.length:Int)==1)
   else
    if e1.kind==6 then
     some ((e1.args.length:Int)==1)
    else
     if e1.kind==4 then
      some ((e1.args.length:Int)==2)
     else
      if e1.kind==7 then
       some ((e1.args.length:Int)==2)
      else
       if e1.kind==8 then
        some ((e1.args.length:Int)==3)
       else
        some (((e1.kind==5)||(e1.kind==9))||(e1.kind==10))
def Gd(e1:aj):Option Bool:=
 if e1.kind==2 then
  qW e1.name
 else
  if e1.kind==3 then
   qW e1.name
  else
   if e1.kind==5 then
    qW e1.name
   else
    if e1.kind==6 then
     some ((e1.name==([33]:Str))||(e1.name==([45]:Str)))
    else
     if e1.kind==7 then
      av (sw e1.name) fun x4=>
      some (decide (0<x4))
     else
      some (e1.name==([]:Str))
def BH(j5:ah→ah→Option Bool)(a1 b1:ah):Nat→Int→Option Bool
 | 0,_=>none
 | Xf+1,i2=>
  if decide (i2<(a1.aP.length:Int))then
   av (idx a1.aP i2) fun e3=>
   av (idx b1.aP i2) fun e4=>
   av (j5 e3 e4) fun x1=>
   if !x1 then
    some false
   else
    BH j5 a1 b1 Xf (bq (i2+1))
  else
   some true
def BI(j5:ah→ah→Option Bool)(a1 b1:ah):Nat→Int→Option Bool
 | 0,_=>none
 | dW+1,i1=>
  if decide (i1<(a1.keys.length:Int))then
   av (idx a1.keys i1) fun e1=>
   av (idx b1.keys i1) fun e2=>
   if !(e1==e2)then
    some false
   else
    BI j5 a1 b1 dW (bq (i1+1))
  else
   BH j5 a1 b1 BIG 0
def Hu(j5:ah→ah→Option Bool)(a1 b1:ah):Option Bool:=
 if (((((a1.kind !=b1.kind)||(!(a1.dD==b1.dD)))||(a1.cu !=b1.cu))||(!(a1.bJ==b1.bJ)))||((a1.aP.length:Int) !=(b1.aP.length:Int)))||((a1.keys.length:Int) !=(b1.keys.length:Int))then
  some false
 else
  BI j5 a1 b1 BIG 0
def Ht:Nat→ah→ah→Option Bool
 | 0,_,_=>none
 | k+1,tO,tN=>Hu (Ht k) tO tN
def MX(tO tN:ah):Option Bool:=Ht BIG tO tN
def tV(e1:aj):Nat→Int→Option Bool
 | 0,_=>none
 | dW+1,i1=>
  if decide (i1<(e1.keys.length:Int))then
   av (idx e1.keys i1) fun e2=>
   av (
     if decide ((e2.length:Int)<1)then
      some true
     else
      av (idx e1.keys i1) fun e3=>
      some (decide (64<(e3.length:Int)))) fun b4=>
   if b4 then
    some false
   else
    tV e1 dW (bq (i1+1))
  else
   some ((e1.keys.length:Int)==(e1.args.length:Int))
def D_(e1:aj):Option Bool:=
 av (Gf e1) fun x1=>
 av (
   if !x1 then
    some true
   else
    av (Gd e1) fun x2=>
    some (!x2)) fun b1=>
 av (
   if b1 then
    some true
   else
    if e1.kind !=1 then
     av (MX e1.value (ah.mk 0 false 0 ([]:Str) [] [])) fun x3=>
     some (!x3)
    else
     some false) fun b2=>
 if b2 then
  some false
 else
  if e1.kind !=10 then
   some ((e1.keys.length:Int)==0)
  else
   tV e1 BIG 0
def Gl(v1:ah):Option Bool:=
 if ((v1.dD&&(v1.kind !=1))||((v1.cu !=0)&&(v1.kind !=2)))||((!(v1.bJ==([]:Str)))&&(v1.kind !=3))then
  some false
 else
  if ((decide (0<(v1.aP.length:Int)))&&(v1.kind !=4))&&(v1.kind !=5)then
   some false
  else
   some (((v1.keys.length:Int)==0)||(v1.kind==5))
def Ky(s1:Str):Option Bool:=
 some ((decide (1≤(s1.length:Int)))&&(decide ((s1.length:Int)≤64)))
def vS(Lg Nl:Bool):Option Int:=
 if Lg then
  some (-1)
 else
  if Nl then
   some 1
  else
   some 0
def Dr(c1:UInt8):Option Bool:=
 some ((decide (48≤(c1.toNat:Int)))&&(decide ((c1.toNat:Int)≤57)))
def Ed(s1:Str):Nat→Int→Option Int
 | 0,_=>none
 | dW+1,at2=>
  av (
    if decide (at2<(s1.length:Int))then
     av (idx s1 at2) fun x1=>
     Dr x1
    else
     some false) fun b1=>
  if b1 then
   Ed s1 dW (bq (at2+1))
  else
   some at2
def MZ(s1:Str)(bV:Int):Option Int:=
 Ed s1 BIG bV
def vR(s1:Str):Nat→Int→Option Str
 | 0,_=>none
 | dW+1,i1=>
  av (
    if decide (i1<(s1.length:Int))then
     av (idx s1 i1) fun x1=>
     some ((x1.toNat:Int)==48)
    else
     some false) fun b1=>
  if b1 then
   vR s1 dW (bq (i1+1))
  else
   sl s1 i1 (s1.length:Int)
def Dq(s1:Str):Option Str:=
 vR s1 BIG 0
def Jt(a1 b1:Str):Option Int:=
 av (Dq a1) fun x1=>
 av (Dq b1) fun y1=>
 if (x1.length:Int) !=(y1.length:Int)then
  vS (decide ((x1.length:Int)<(y1.length:Int))) (decide ((y1.length:Int)<(x1.length:Int)))
 else
  if !(x1==y1)then
   vS (Go.Op.bytesLess x1 y1) (!(Go.Op.bytesLess x1 y1||x1==y1))
  else
   vS (decide ((a1.length:Int)<(b1.length:Int))) (decide ((b1.length:Int)<(a1.length:Int)))
def m_(a1 b1:Str):Nat→Int→Int→Option Int
 | 0,_,_=>none
 | dW+1,i1,GZ=>
  if (decide (i1<(a1.length:Int)))&&(decide (GZ<(b1.length:Int)))then
   av (idx a1 i1) fun x1=>
   av (idx b1 GZ) fun x2=>
   av (idx a1 i1) fun x3=>
   av (idx b1 GZ) fun x4=>
   av (vS (decide ((x1.toNat:Int)<(x2.toNat:Int))) (decide ((x4.toNat:Int)<(x3.toNat:Int)))) fun c1=>
   av (idx a1 i1) fun x5=>
   av (Dr x5) fun x6=>
   av (
     if x6 then
      av (idx b1 GZ) fun x7=>
      Dr x7
     else
      some false) fun b2=>
   if b2 then
    av (MZ a1 i1) fun m1=>
    av (MZ b1 GZ) fun n1=>
    av (sl a1 i1 m1) fun x9=>
    av (sl b1 GZ n1) fun G8=>
    av (Jt x9 G8) fun c2=>
    if c2 !=0 then
     some c2
    else
     m_ a1 b1 dW m1 n1
   else
    if c1 !=0 then
     some c1
    else
     m_ a1 b1 dW (bq (i1+1)) (bq (GZ+1))
  else
   vS (decide (GZ<(b1.length:Int))) (decide (i1<(a1.length:Int)))
def oJ(a1 b1:Str):Option Int:=
 m_ a1 b1 BIG 0 0
def oN(v1:ah):Nat→Int→Option Bool
 | 0,_=>none
 | dW+1,i1=>
  if decide (i1<(v1.keys.length:Int))then
   av (idx v1.keys i1) fun e1=>
   av (Ky e1) fun x1=>
   av (
     if !x1 then
      some true
     else
      if decide (0<i1)then
       av (idx v1.keys (bq (i1-1))) fun e2=>
       av (idx v1.keys i1) fun e3=>
       av (oJ e2 e3) fun x2=>
       some (decide (0≤x2))
      else
       some false) fun b1=>
   if b1 then
    some false
   else
    oN v1 dW (bq (i1+1))
  else
   some ((v1.keys.length:Int)==(v1.aP.length:Int))
def wR(v1:ah):Option Bool:=
 oN v1 BIG 0
def zo(oC:ah→Int→Option Int)(v1:ah)(bH:Int):Nat→Int→Option Int
 | 0,_=>none
 | dW+1,i1=>
  if decide (i1<(v1.aP.length:Int))then
   av (idx v1.aP i1) fun e1=>
   av (oC e1 (bq (bH+1))) fun e2=>
   if e2 !=0 then
    some e2
   else
    zo oC v1 bH dW (bq (i1+1))
  else
   some 0
def EX(oC:ah→Int→Option Int)(v1:ah)(bH:Int):Option Int:=
 if decide (16<bH)then
  some 13
 else
  av (
    if (decide (v1.kind<0))||(decide (5<v1.kind))then
     some true
    else
     av (Gl v1) fun x1=>
     some (!x1)) fun b1=>
  if b1 then
   some 1
  else
   if (decide (v1.cu<(-9007199254740992)))||(decide (9007199254740992<v1.cu))then
    some 2
   else
    if ((decide (4096<(v1.bJ.length:Int)))||(decide (1024<(v1.aP.length:Int))))||(decide (1024<(v1.keys.length:Int)))then
     some 3
    else
     av (
       if v1.kind==5 then
        av (wR v1) fun x2=>
        some (!x2)
       else
        some false) fun b2=>
     if b2 then
      some 1
     else
      if ((decide (4≤v1.kind))&&((v1.aP.length:Int)==0))&&(bH==16)then
       some 13
      else
       zo oC v1 bH BIG 0
def uS:Nat→ah→Int→Option Int
 | 0,_,_=>none
 | k+1,mo,eP=>EX (uS k) mo eP
def Oi(mo:ah)(eP:Int):Option Int:=uS BIG mo eP
def yI(v1:ah):Option Int:=
 Oi v1 1
def vO(um:List Str)(i1:Int)(tH:Int→Option Bool):Nat→Int→Option Bool
 | 0,_=>none
 | Xf+1,GZ=>
  if decide (GZ<i1)then
   av (idx um i1) fun e1=>
   av (idx um GZ) fun e2=>
   if e1==e2 then
    some true
   else
    vO um i1 tH Xf (bq (GZ+1))
  else
   tH (bq (i1+1))
def su(um:List Str):Nat→Int→Option Bool
 | 0,_=>none
 | dW+1,i1=>
  if decide (i1<(um.length:Int))then
   vO um i1 (su um dW) BIG 0
  else
   some false
def Gc(um:List Str):Option Bool:=
 su um BIG 0
def zl(ow:aj→Int→Option Int)(e1:aj)(bH:Int):Nat→Int→Option Int
 | 0,_=>none
 | dW+1,i1=>
  if decide (i1<(e1.args.length:Int))then
   av (idx e1.args i1) fun e2=>
   av (ow e2 (bq (bH+1))) fun f2=>
   if f2 !=0 then
    some f2
   else
    zl ow e1 bH dW (bq (i1+1))
  else
   some 0
def ER(ow:aj→Int→Option Int)(e1:aj)(bH:Int):Option Int:=
 if decide (16<bH)then
  some 13
 else
  av (D_ e1) fun x1=>
  if !x1 then
   some 1
  else
   av (yI e1.value) fun f1=>
   if (e1.kind==1)&&(f1 !=0)then
    some f1
   else
    if decide (1024<(e1.args.length:Int))then
     some 3
    else
     av (Gc e1.keys) fun x2=>
     if x2 then
      some 7
     else
      zl ow e1 bH BIG 0
def uN:Nat→aj→Int→Option Int
 | 0,_,_=>none
 | k+1,gB,eP=>ER (uN k) gB eP
def Og(gB:aj)(eP:Int):Option Int:=uN BIG gB eP
def Dp(e1:aj):Option Int:=
 av (Kv e1) fun x1=>
 if decide (4096<x1)then
  some 15
 else
  Og e1 1
def Jp(iX:List ay):Option (aj × Int × Int):=
 lN (FJ iX 0) fun x1 bV e1=>
 if e1 !=0 then
  some ((aj.mk 0 ([]:Str) (ah.mk 0 false 0 ([]:Str) [] []) [] []),bV,e1)
 else
  av (Dp x1) fun f1=>
  if f1 !=0 then
   some ((aj.mk 0 ([]:Str) (ah.mk 0 false 0 ([]:Str) [] []) [] []),0,f1)
  else
   some (x1,bV,0)
def Gg(bn:Str):Option (aj × Int × Int):=
 lN (uP bn) fun iX bV e1=>
 if e1 !=0 then
  some ((aj.mk 0 ([]:Str) (ah.mk 0 false 0 ([]:Str) [] []) [] []),bV,e1)
 else
  lN (Jp iX) fun x1 n1 e2=>
  if (e2==0)&&(n1==(iX.length:Int))then
   some (x1,0,0)
  else
   if e2==0 then
    if decide (n1<(iX.length:Int))then
     av (idx iX n1) fun e3=>
     some ((aj.mk 0 ([]:Str) (ah.mk 0 false 0 ([]:Str) [] []) [] []),e3.at_,5)
    else
     some ((aj.mk 0 ([]:Str) (ah.mk 0 false 0 ([]:Str) [] []) [] []),(bn.length:Int),5)
   else
    if decide (n1<(iX.length:Int))then
     av (idx iX n1) fun e4=>
     some ((aj.mk 0 ([]:Str) (ah.mk 0 false 0 ([]:Str) [] []) [] []),e4.at_,e2)
    else
     some ((aj.mk 0 ([]:Str) (ah.mk 0 false 0 ([]:Str) [] []) [] []),(bn.length:Int),e2)
def nW(s1:Str):Nat→List aO→Int→Option (List aO × Int × Int)
 | 0,_,_=>none
 | dW+1,l1,bV=>
  if decide (bV<(s1.length:Int))then
   av (idx s1 bV) fun x1=>
   av (
     if ((x1.toNat:Int) !=36)||(decide ((s1.length:Int)≤(bq (bV+1))))then
      some true
     else
      av (idx s1 (bq (bV+1))) fun x2=>
      if (x2.toNat:Int) !=36 then
       av (idx s1 (bq (bV+1))) fun x3=>
       some ((x3.toNat:Int) !=123)
      else
       some false) fun b1=>
   if b1 then
    av (idx s1 bV) fun c1=>
    av (D5 l1 c1) fun l2=>
    nW s1 dW l2 (bq (bV+1))
   else
    av (idx s1 (bq (bV+1))) fun x4=>
    if (x4.toNat:Int)==36 then
     av (D5 l1 36) fun l2=>
     nW s1 dW l2 (bq (bV+2))
    else
     av (EO s1 (bq (bV+2))) fun tK=>
     if decide (tK<0)then
      some ([],bV,4)
     else
      av (sl s1 (bq (bV+2)) tK) fun x5=>
      lN (Gg x5) fun x6 GZ e1=>
      if e1 !=0 then
       some ([],(bq ((bq (bV+2))+GZ)),e1)
      else
       av (app l1 [(aO.mk ([]:Str) true x6)]) fun l2=>
       nW s1 dW l2 (bq (tK+1))
  else
   some (l1,0,0)
def F8(s1:Str):Option (List aO × Int × Int):=
 if decide (4096<(s1.length:Int))then
  some ([],0,3)
 else
  nW s1 BIG [] 0
def Ar(bX:List aB)(i1:Int)(wY:Int→Option Int):Nat→Int→Option Int
 | 0,_=>none
 | Xf+1,GZ=>
  if decide (GZ<i1)then
   av (idx bX GZ) fun e4=>
   av (idx bX i1) fun e5=>
   if e4.name==e5.name then
    some 7
   else
    Ar bX i1 wY Xf (bq (GZ+1))
  else
   wY (bq (i1+1))
def xV(bX:List aB):Nat→Int→Option Int
 | 0,_=>none
 | dW+1,i1=>
  if decide (i1<(bX.length:Int))then
   av (idx bX i1) fun e1=>
   av (qW e1.name) fun x1=>
   if !x1 then
    some 1
   else
    av (idx bX i1) fun e2=>
    av (yI e2.value) fun e3=>
    if e3 !=0 then
     some e3
    else
     Ar bX i1 (xV bX dW) BIG 0
  else
   some 0
def Ku(bX:List aB):Option Int:=
 if decide (1024<(bX.length:Int))then
  some 3
 else
  xV bX BIG 0
def Gb(name1:Str):Option Int:=
 if name1==([108,101,110]:Str)then
  some 1
 else
  if name1==([108,111,119,101,114]:Str)then
   some 1
  else
   if name1==([117,112,112,101,114]:Str)then
    some 1
   else
    if name1==([115,116,114,105,110,103]:Str)then
     some 1
    else
     if name1==([105,110,116]:Str)then
      some 1
     else
      if name1==([107,101,121,115]:Str)then
       some 1
      else
       if name1==([99,111,110,116,97,105,110,115]:Str)then
        some 2
       else
        if name1==([106,111,105,110]:Str)then
         some 2
        else
         if name1==([115,112,108,105,116]:Str)then
          some 2
         else
          if name1==([115,116,97,114,116,115,119,105,116,104]:Str)then
           some 2
          else
           if name1==([101,110,100,115,119,105,116,104]:Str)then
            some 2
           else
            if name1==([100,101,102,97,117,108,116]:Str)then
             some 2
            else
             some (-1)
def nX(s1:Str):Option ah:=
 some (ah.mk 3 false 0 s1 [] [])
def Aw(v1:ah)(key1:Str):Nat→Int→Option (ah × Bool)
 | 0,_=>none
 | dW+1,i1=>
  if decide (i1<(v1.keys.length:Int))then
   av (idx v1.keys i1) fun e1=>
   if e1==key1 then
    if decide ((v1.aP.length:Int)≤i1)then
     some ((ah.mk 0 false 0 ([]:Str) [] []),false)
    else
     av (idx v1.aP i1) fun e2=>
     some (e2,true)
   else
    Aw v1 key1 dW (bq (i1+1))
  else
   some ((ah.mk 0 false 0 ([]:Str) [] []),false)
def Hw(v1:ah)(key1:Str):Option (ah × Bool):=
 if v1.kind !=5 then
  some ((ah.mk 0 false 0 ([]:Str) [] []),false)
 else
  Aw v1 key1 BIG 0
def Dm(a1 b1:ah):Option (ah × Int):=
 if (a1.kind==4)&&(b1.kind==2)then
  if (decide (b1.cu<0))||(decide ((a1.aP.length:Int)≤b1.cu))then
   some ((ah.mk 0 false 0 ([]:Str) [] []),8)
  else
   av (idx a1.aP b1.cu) fun e1=>
   some (e1,0)
 else
  if (a1.kind !=5)||(b1.kind !=3)then
   some ((ah.mk 0 false 0 ([]:Str) [] []),9)
  else
   eO (Hw a1 b1.bJ) fun x1 ok1=>
   if !ok1 then
    some ((ah.mk 0 false 0 ([]:Str) [] []),8)
   else
    some (x1,0)
def tY(vg:Int→Option Str)(n1:Int):Option Str:=
 if decide (n1<0)then
  if decide ((-10)<n1)then
   app ([45]:Str) ([(Ft.byteOf (bq (48-n1)))]:List UInt8)
  else
   av (vg (bq ((n1:Int).tdiv 10))) fun x2=>
   app x2 ([(Ft.byteOf (bq (48-((n1:Int).tmod 10))))]:List UInt8)
 else
  if decide (n1<10)then
   some ([(Ft.byteOf (bq (48+n1)))]:List UInt8)
  else
   av (vg (bq ((n1:Int).tdiv 10))) fun x4=>
   app x4 ([(Ft.byteOf (bq (48+((n1:Int).tmod 10))))]:List UInt8)
def lu:Nat→Int→Option Str
 | 0,_=>none
 | k+1,LB=>tY (lu k) LB
def EY(LB:Int):Option Str:=lu BIG LB
def FL(c1:UInt8):Option Str:=
 if (c1.toNat:Int)==34 then
  some ([92,34]:List UInt8)
 else
  if (c1.toNat:Int)==92 then
   some ([92,92]:List UInt8)
  else
   if (c1.toNat:Int)==10 then
    some ([92,110]:List UInt8)
   else
    if (c1.toNat:Int)==9 then
     some ([92,116]:List UInt8)
    else
     if (decide (32≤(c1.toNat:Int)))&&(decide ((c1.toNat:Int)≤126))then
      some ([c1]:List UInt8)
     else
      av (idx ([48,49,50,51,52,53,54,55,56,57,97,98,99,100,101,102]:Str) ((c1/16).toNat:Int)) fun x1=>
      av (idx ([48,49,50,51,52,53,54,55,56,57,97,98,99,100,101,102]:Str) ((c1%16).toNat:Int)) fun x2=>
      some ([92,120,x1,x2]:List UInt8)
def Cw(s1:Str):Nat→Str→Int→Option Str
 | 0,_,_=>none
 | dW+1,bK,i1=>
  if decide (i1<(s1.length:Int))then
   av (idx s1 i1) fun x1=>
   av (FL x1) fun x2=>
   av (app bK x2) fun yQ=>
   Cw s1 dW yQ (bq (i1+1))
  else
   app bK ([34]:List UInt8)
def Gq(s1:Str):Option Str:=
 Cw s1 BIG ([34]:List UInt8) 0
def o7(gU:ah→Option Str)(v1:ah):Nat→Str→Int→Option Str
 | 0,_,_=>none
 | dW+1,s1,i1=>
  if decide (i1<(v1.aP.length:Int))then
   if decide (0<i1)then
    av (app s1 ([44,32]:Str)) fun s2=>
    if v1.kind==5 then
     av (idx v1.keys i1) fun e1=>
     av (Gq e1) fun x3=>
     av (app s2 x3) fun x4=>
     av (app x4 ([58,32]:Str)) fun s3=>
     av (idx v1.aP i1) fun e2=>
     av (gU e2) fun x5=>
     av (app s3 x5) fun s4=>
     o7 gU v1 dW s4 (bq (i1+1))
    else
     av (idx v1.aP i1) fun e3=>
     av (gU e3) fun x6=>
     av (app s2 x6) fun s5=>
     o7 gU v1 dW s5 (bq (i1+1))
   else
    if v1.kind==5 then
     av (idx v1.keys i1) fun e4=>
     av (Gq e4) fun x7=>
     av (app s1 x7) fun x8=>
     av (app x8 ([58,32]:Str)) fun s6=>
     av (idx v1.aP i1) fun e5=>
     av (gU e5) fun x9=>
     av (app s6 x9) fun s7=>
     o7 gU v1 dW s7 (bq (i1+1))
    else
     av (idx v1.aP i1) fun e6=>
     av (gU e6) fun G8=>
     av (app s1 G8) fun s8=>
     o7 gU v1 dW s8 (bq (i1+1))
  else
   if v1.kind==5 then
    av (app ([123]:Str) s1) fun NP=>
    app NP ([125]:Str)
   else
    av (app ([91]:Str) s1) fun Ua=>
    app Ua ([93]:Str)
def A9(gU:ah→Option Str)(v1:ah):Option Str:=
 if v1.kind==0 then
  some ([110,117,108,108]:Str)
 else
  if v1.kind==1 then
   if v1.dD then
    some ([116,114,117,101]:Str)
   else
    some ([102,97,108,115,101]:Str)
  else
   if v1.kind==2 then
    EY v1.cu
   else
    if v1.kind==3 then
     Gq v1.bJ
    else
     o7 gU v1 BIG ([]:Str) 0
def A8:Nat→ah→Option Str
 | 0,_=>none
 | k+1,mo=>A9 (A8 k) mo
def Js(mo:ah):Option Str:=A8 BIG mo
def Gp(v1:ah):Option (Str × Int):=
 if (v1.kind==4)||(v1.kind==5)then
  some (([]:Str),9)
 else
  av (yI v1) fun e1=>
  if e1 !=0 then
   some (([]:Str),e1)
  else
   if v1.kind==0 then
    some (([]:Str),0)
   else
    if v1.kind==3 then
     some (v1.bJ,0)
    else
     av (Js v1) fun x1=>
     some (x1,0)
def vM(s1:Str)(Et JJ:UInt8)(Ag:Int):Nat→List UInt8→Int→Option Str
 | 0,_,_=>none
 | dW+1,b1,i1=>
  if decide (i1<(s1.length:Int))then
   av (idx s1 i1) fun c1=>
   if (decide ((Et.toNat:Int)≤(c1.toNat:Int)))&&(decide ((c1.toNat:Int)≤(JJ.toNat:Int)))then
    av (app b1 ([(Ft.byteOf (bq ((c1.toNat:Int)+Ag)))]:List UInt8)) fun b2=>
    vM s1 Et JJ Ag dW b2 (bq (i1+1))
   else
    av (app b1 ([c1]:List UInt8)) fun b3=>
    vM s1 Et JJ Ag dW b3 (bq (i1+1))
  else
   some b1
def Dn(s1:Str)(Et JJ:UInt8)(Ag:Int):Option Str:=
 vM s1 Et JJ Ag BIG [] 0
def xU(s1:Str):Option (Int × Bool):=
 av (
   if !(s1==([]:Str))then
    av (idx s1 0) fun x1=>
    some ((x1.toNat:Int)==45)
   else
    some false) fun b1=>
 if b1 then
  av (sl s1 1 (s1.length:Int)) fun x2=>
  eO (xD x2) fun n1 ok1=>
  some ((bq (0-n1)),(ok1&&(n1 !=0)))
 else
  xD s1
def Aq(a1:ah):Nat→Int→ah→Option (ah × Int)
 | 0,_,_=>none
 | dW+1,i1,v1=>
  if decide (i1<(a1.keys.length:Int))then
   av (idx a1.keys i1) fun e1=>
   av (nX e1) fun x1=>
   av (app v1.aP [x1]) fun x2=>
   Aq a1 dW (bq (i1+1)) (ah.mk v1.kind v1.dD v1.cu v1.bJ x2 v1.keys)
  else
   some (v1,0)
def MV(name1:Str)(a1:ah):Option (ah × Int):=
 if (name1==([108,101,110]:Str))&&(decide (3≤a1.kind))then
  some ((ah.mk 2 false (bq ((a1.bJ.length:Int)+(a1.aP.length:Int))) ([]:Str) [] []),0)
 else
  if (name1==([107,101,121,115]:Str))&&(a1.kind==5)then
   Aq a1 BIG 0 (ah.mk 4 false 0 ([]:Str) [] [])
  else
   if name1==([115,116,114,105,110,103]:Str)then
    eO (Gp a1) fun s2 e2=>
    if e2 !=0 then
     some ((ah.mk 0 false 0 ([]:Str) [] []),e2)
    else
     av (nX s2) fun x3=>
     some (x3,0)
   else
    if ((a1.kind !=3)||(name1==([108,101,110]:Str)))||(name1==([107,101,121,115]:Str))then
     some ((ah.mk 0 false 0 ([]:Str) [] []),9)
    else
     if name1==([108,111,119,101,114]:Str)then
      av (Dn a1.bJ 65 90 32) fun x4=>
      av (nX x4) fun x5=>
      some (x5,0)
     else
      if name1==([117,112,112,101,114]:Str)then
       av (Dn a1.bJ 97 122 (-32)) fun x6=>
       av (nX x6) fun x7=>
       some (x7,0)
      else
       eO (xU a1.bJ) fun n1 ok1=>
       if !ok1 then
        some ((ah.mk 0 false 0 ([]:Str) [] []),1)
       else
        some ((ah.mk 2 false n1 ([]:Str) [] []),0)
def mZ(QL:Bool):Option Int:=
 if QL then
  some (-1)
 else
  some 1
def vP(a1 b1:List Str):Nat→Int→Option Int
 | 0,_=>none
 | dW+1,i1=>
  if (decide (i1<(a1.length:Int)))&&(decide (i1<(b1.length:Int)))then
   av (idx a1 i1) fun e1=>
   av (idx b1 i1) fun e2=>
   av (oJ e1 e2) fun c1=>
   if c1 !=0 then
    mZ (decide (c1<0))
   else
    vP a1 b1 dW (bq (i1+1))
  else
   if (a1.length:Int)==(b1.length:Int)then
    some 0
   else
    mZ (decide ((a1.length:Int)<(b1.length:Int)))
def Gm(a1 b1:List Str):Option Int:=
 vP a1 b1 BIG 0
def A_(jJ:ah→ah→Option Int)(sM:List ah→List ah→Option Int)(a1 b1:ah):Option Int:=
 if a1.kind !=b1.kind then
  mZ (decide (a1.kind<b1.kind))
 else
  if a1.kind==1 then
   if !(a1.dD==b1.dD)then
    mZ b1.dD
   else
    some 0
  else
   if a1.kind==2 then
    if a1.cu !=b1.cu then
     mZ (decide (a1.cu<b1.cu))
    else
     some 0
   else
    if a1.kind==3 then
     if !(a1.bJ==b1.bJ)then
      mZ (Go.Op.bytesLess a1.bJ b1.bJ)
     else
      some 0
    else
     if a1.kind==4 then
      sM a1.aP b1.aP
     else
      if a1.kind==5 then
       av (Gm a1.keys b1.keys) fun c1=>
       if c1 !=0 then
        some c1
       else
        sM a1.aP b1.aP
      else
       some 0
def vQ(jJ:ah→ah→Option Int)(a1 b1:List ah):Nat→Int→Option Int
 | 0,_=>none
 | dW+1,i1=>
  if (decide (i1<(a1.length:Int)))&&(decide (i1<(b1.length:Int)))then
   av (idx a1 i1) fun e1=>
   av (idx b1 i1) fun e2=>
   av (jJ e1 e2) fun c1=>
   if c1 !=0 then
    some c1
   else
    vQ jJ a1 b1 dW (bq (i1+1))
  else
   if (a1.length:Int)==(b1.length:Int)then
    some 0
   else
    mZ (decide ((a1.length:Int)<(b1.length:Int)))
def EW(jJ:ah→ah→Option Int)(sM:List ah→List ah→Option Int)(a1 b1:List ah):Option Int:=
 vQ jJ a1 b1 BIG 0
mutual
def mQ:Nat→ah→ah→Option Int
 | 0,_,_=>none
 | k+1,tO,tN=>A_ (mQ k) (BG k) tO tN
def BG:Nat→List ah→List ah→Option Int
 | 0,_,_=>none
 | k+1,tO,tN=>EW (mQ k) (BG k) tO tN
end
def EZ(tO tN:ah):Option Int:=mQ BIG tO tN
def adC(tO tN:List ah):Option Int:=BG BIG tO tN
def yJ(a1 b1:ah):Option Bool:=
 av (EZ a1 b1) fun x1=>
 some (x1==0)
def jd(b1:Bool):Option ah:=
 some (ah.mk 1 b1 0 ([]:Str) [] [])
def yE(s1 t1:Str):Nat→Int→Option Int
 | 0,_=>none
 | dW+1,i1=>
  if decide ((bq (i1+(t1.length:Int)))≤(s1.length:Int))then
   av (sl s1 i1 (bq (i1+(t1.length:Int)))) fun x1=>
   if x1==t1 then
    some i1
   else
    yE s1 t1 dW (bq (i1+1))
  else
   some (-1)
def D7(s1 t1:Str)(SA:Int):Option Int:=
 yE s1 t1 BIG SA
def pR(a1 b1:ah):Nat→Int→Option (ah × Int)
 | 0,_=>none
 | dW+1,i1=>
  if decide (i1<(a1.aP.length:Int))then
   av (idx a1.aP i1) fun e1=>
   av (yJ e1 b1) fun x1=>
   if x1 then
    av (jd true) fun x2=>
    some (x2,0)
   else
    pR a1 b1 dW (bq (i1+1))
  else
   av (jd false) fun x3=>
   some (x3,0)
def zi(a1 b1:ah):Option (ah × Int):=
 if a1.kind==4 then
  pR a1 b1 BIG 0
 else
  if (b1.kind !=3)||((a1.kind !=3)&&(a1.kind !=5))then
   some ((ah.mk 0 false 0 ([]:Str) [] []),9)
  else
   if a1.kind==5 then
    eO (Hw a1 b1.bJ) fun x4 ok1=>
    av (jd ok1) fun x5=>
    some (x5,0)
   else
    av (D7 a1.bJ b1.bJ 0) fun x6=>
    av (jd (decide (0≤x6))) fun x7=>
    some (x7,0)
def wS(mR:ah→Option Int)(v1:ah):Nat→Int→Int→Option Int
 | 0,_,_=>none
 | dW+1,n1,i1=>
  if decide (i1<(v1.aP.length:Int))then
   av (idx v1.aP i1) fun e1=>
   av (mR e1) fun x1=>
   wS mR v1 dW (if n1<(bq (1+x1))then (bq (1+x1))else n1) (bq (i1+1))
  else
   some n1
def Cx(mR:ah→Option Int)(v1:ah):Option Int:=
 if (v1.kind !=4)&&(v1.kind !=5)then
  some 1
 else
  wS mR v1 BIG 2 0
def sF:Nat→ah→Option Int
 | 0,_=>none
 | k+1,mo=>Cx (sF k) mo
def Ec(mo:ah):Option Int:=sF BIG mo
def jB(v1:ah):Option (ah × Int):=
 if (decide (v1.cu<(-9007199254740992)))||(decide (9007199254740992<v1.cu))then
  some ((ah.mk 0 false 0 ([]:Str) [] []),11)
 else
  if (decide (4096<(v1.bJ.length:Int)))||(decide (1024<(v1.aP.length:Int)))then
   some ((ah.mk 0 false 0 ([]:Str) [] []),3)
  else
   av (Ec v1) fun x1=>
   if decide (16<x1)then
    some ((ah.mk 0 false 0 ([]:Str) [] []),13)
   else
    some (v1,0)
def rT(a1 b1:ah):Nat→Str→Int→Option (ah × Int)
 | 0,_,_=>none
 | dW+1,s1,i1=>
  if decide (i1<(a1.aP.length:Int))then
   av (idx a1.aP i1) fun e1=>
   if e1.kind !=3 then
    some ((ah.mk 0 false 0 ([]:Str) [] []),9)
   else
    if decide (0<i1)then
     av (app s1 b1.bJ) fun s2=>
     av (idx a1.aP i1) fun e2=>
     av (app s2 e2.bJ) fun s3=>
     rT a1 b1 dW s3 (bq (i1+1))
    else
     av (idx a1.aP i1) fun e3=>
     av (app s1 e3.bJ) fun s4=>
     rT a1 b1 dW s4 (bq (i1+1))
  else
   av (nX s1) fun x1=>
   jB x1
def Jm(a1 b1:ah):Option (ah × Int):=
 if (a1.kind !=4)||(b1.kind !=3)then
  some ((ah.mk 0 false 0 ([]:Str) [] []),9)
 else
  rT a1 b1 BIG ([]:Str) 0
def vL(s1 Ag:Str):Nat→List ah→Int→Int→Option (ah × Int)
 | 0,_,_,_=>none
 | dW+1,l1,SA,at2=>
  if decide (0≤at2)then
   av (sl s1 SA at2) fun x1=>
   av (nX x1) fun x2=>
   av (app l1 [x2]) fun l2=>
   av (D7 s1 Ag (bq (at2+(Ag.length:Int)))) fun at3=>
   vL s1 Ag dW l2 (bq (at2+(Ag.length:Int))) at3
  else
   av (sl s1 SA (s1.length:Int)) fun x3=>
   av (nX x3) fun x4=>
   av (app l1 [x4]) fun x5=>
   jB (ah.mk 4 false 0 ([]:Str) x5 [])
def Ap(s1 Ag:Str):Option (ah × Int):=
 if Ag==([]:Str)then
  some ((ah.mk 0 false 0 ([]:Str) [] []),1)
 else
  av (D7 s1 Ag 0) fun bV=>
  vL s1 Ag BIG [] 0 bV
def MU(name1:Str)(a1 b1:ah):Option (ah × Int):=
 if name1==([99,111,110,116,97,105,110,115]:Str)then
  zi a1 b1
 else
  if name1==([106,111,105,110]:Str)then
   Jm a1 b1
  else
   if name1==([100,101,102,97,117,108,116]:Str)then
    if a1.kind==0 then
     some (b1,0)
    else
     some (a1,0)
   else
    if (a1.kind !=3)||(b1.kind !=3)then
     some ((ah.mk 0 false 0 ([]:Str) [] []),9)
    else
     if name1==([115,112,108,105,116]:Str)then
      Ap a1.bJ b1.bJ
     else
      if name1==([115,116,97,114,116,115,119,105,116,104]:Str)then
       av (
         if decide ((b1.bJ.length:Int)≤(a1.bJ.length:Int))then
          av (sl a1.bJ 0 (b1.bJ.length:Int)) fun x7=>
          some (x7==b1.bJ)
         else
          some false) fun b2=>
       av (jd b2) fun x8=>
       some (x8,0)
      else
       av (
         if decide ((b1.bJ.length:Int)≤(a1.bJ.length:Int))then
          av (sl a1.bJ (bq ((a1.bJ.length:Int)-(b1.bJ.length:Int))) (a1.bJ.length:Int)) fun x9=>
          some (x9==b1.bJ)
         else
          some false) fun b3=>
       av (jd b3) fun G8=>
       some (G8,0)
def uL(op1:Str)(Lg YX:Bool):Option (ah × Int):=
 if op1==([60]:Str)then
  av (jd Lg) fun x1=>
  some (x1,0)
 else
  if op1==([60,61]:Str)then
   av (jd (!YX)) fun x2=>
   some (x2,0)
  else
   if op1==([62]:Str)then
    av (jd YX) fun x3=>
    some (x3,0)
   else
    av (jd (!Lg)) fun x4=>
    some (x4,0)
def BJ(n1:Int):Option (BitVec 64):=
 if decide (n1<0)then
  some ((BitVec.ofInt 64 (bq (0-(bq (n1+1)))))+(1:BitVec 64))
 else
  some (BitVec.ofInt 64 n1)
def BK(a1 b1:Int):Option bD:=
 av (BJ a1) fun x1=>
 av (BJ b1) fun y1=>
 av (some ((x1%(4294967296:BitVec 64))*(y1%(4294967296:BitVec 64)))) fun Ce=>
 av (some ((x1/(4294967296:BitVec 64))*(y1%(4294967296:BitVec 64)))) fun x2=>
 av (some ((x1%(4294967296:BitVec 64))*(y1/(4294967296:BitVec 64)))) fun x3=>
 av (some ((x2+(Ce/(4294967296:BitVec 64)))%(4294967296:BitVec 64))) fun x4=>
 av (some ((x1/(4294967296:BitVec 64))*(y1/(4294967296:BitVec 64)))) fun x5=>
 av (some ((x2+(Ce/(4294967296:BitVec 64)))/(4294967296:BitVec 64))) fun x6=>
 av (some ((x5+x6)+((x3+x4)/(4294967296:BitVec 64)))) fun x7=>
 av (some (((x3+x4)%(4294967296:BitVec 64))*(4294967296:BitVec 64))) fun x8=>
 some (bD.mk ((!((decide (a1<0))==(decide (b1<0))))&&(((x7.toNat:Int) !=0)||(((x8+(Ce%(4294967296:BitVec 64))).toNat:Int) !=0))) x7 (x8+(Ce%(4294967296:BitVec 64))))
def Hy(w1:bD):Option (Int × Bool):=
 if (((w1.hi.toNat:Int) !=0)||(decide (9223372036854775808<(w1.lo.toNat:Int))))||(((w1.lo.toNat:Int)==9223372036854775808)&&(!w1.neg))then
  some (0,false)
 else
  if (w1.lo.toNat:Int)==9223372036854775808 then
   some ((-9223372036854775808),true)
  else
   if w1.neg then
    some ((bq (0-(bq (w1.lo.toNat:Int)))),true)
   else
    some ((bq (w1.lo.toNat:Int)),true)
def M0(a1 b1:Int):Option Int:=
 av (BK a1 b1) fun x1=>
 eO (Hy x1) fun n1 ok1=>
 if ok1 then
  some n1
 else
  if x1.neg then
   some (-9223372036854775808)
  else
   some 9223372036854775807
def Jo(op1:Str)(a1 b1:Int):Option (ah × Int):=
 if op1==([43]:Str)then
  jB (ah.mk 2 false (bq (a1+b1)) ([]:Str) [] [])
 else
  if op1==([45]:Str)then
   jB (ah.mk 2 false (bq (a1-b1)) ([]:Str) [] [])
  else
   if op1==([42]:Str)then
    av (M0 a1 b1) fun n1=>
    jB (ah.mk 2 false n1 ([]:Str) [] [])
   else
    if b1==0 then
     some ((ah.mk 0 false 0 ([]:Str) [] []),12)
    else
     av (VW (!(b1==0))) fun _=>
     if op1==([37]:Str)then
      av (VW (!(b1==0))) fun _=>
      jB (ah.mk 2 false ((a1:Int).tmod b1) ([]:Str) [] [])
     else
      jB (ah.mk 2 false (bq ((a1:Int).tdiv b1)) ([]:Str) [] [])
def nN(op1:Str)(a1 b1:ah):Option (ah × Int):=
 if (op1==([61,61]:Str))||(op1==([33,61]:Str))then
  av (yJ a1 b1) fun x1=>
  av (jd (x1==(op1==([61,61]:Str)))) fun x2=>
  some (x2,0)
 else
  if a1.kind !=b1.kind then
   some ((ah.mk 0 false 0 ([]:Str) [] []),9)
  else
   av (sw op1) fun x3=>
   if (a1.kind==2)&&(x3==4)then
    uL op1 (decide (a1.cu<b1.cu)) (decide (b1.cu<a1.cu))
   else
    if a1.kind==2 then
     Jo op1 a1.cu b1.cu
    else
     if (a1.kind==3)&&(x3==4)then
      uL op1 (Go.Op.bytesLess a1.bJ b1.bJ) (!(Go.Op.bytesLess a1.bJ b1.bJ||a1.bJ==b1.bJ))
     else
      if (a1.kind==3)&&(op1==([43]:Str))then
       av (app a1.bJ b1.bJ) fun G8=>
       av (nX G8) fun NP=>
       jB NP
      else
       if (a1.kind==4)&&(op1==([43]:Str))then
        av (app [] a1.aP) fun l1=>
        av (app l1 b1.aP) fun Z7=>
        jB (ah.mk 4 false 0 ([]:Str) Z7 [])
       else
        some ((ah.mk 0 false 0 ([]:Str) [] []),9)
def uR(v1:ah)(x1:aB):Nat→Bool→Int→ah→Option ah
 | 0,_,_,_=>none
 | dW+1,ahf,i1,bK=>
  if decide (i1<(v1.keys.length:Int))then
   av (
     if !ahf then
      av (idx v1.keys i1) fun e1=>
      av (oJ x1.name e1) fun x2=>
      some (decide (x2<0))
     else
      some false) fun b1=>
   if b1 then
    av (app bK.keys ([x1.name]:List Str)) fun x3=>
    av (app bK.aP [x1.value]) fun x4=>
    av (idx v1.keys i1) fun e2=>
    av (app x3 ([e2]:List Str)) fun x5=>
    av (idx v1.aP i1) fun e3=>
    av (app x4 [e3]) fun x6=>
    uR v1 x1 dW true (bq (i1+1)) (ah.mk bK.kind bK.dD bK.cu bK.bJ x6 x5)
   else
    av (idx v1.keys i1) fun e4=>
    av (app bK.keys ([e4]:List Str)) fun x7=>
    av (idx v1.aP i1) fun e5=>
    av (app bK.aP [e5]) fun x8=>
    uR v1 x1 dW ahf (bq (i1+1)) (ah.mk bK.kind bK.dD bK.cu bK.bJ x8 x7)
  else
   if !ahf then
    av (app bK.keys ([x1.name]:List Str)) fun x9=>
    av (app bK.aP [x1.value]) fun G8=>
    some (ah.mk bK.kind bK.dD bK.cu bK.bJ G8 x9)
   else
    some bK
def Jr(v1:ah)(x1:aB):Option ah:=
 uR v1 x1 BIG false 0 (ah.mk 5 false 0 ([]:Str) [] [])
def Av(iD:List aB):Nat→Int→ah→Option (ah × Int)
 | 0,_,_=>none
 | dW+1,i1,v1=>
  if decide (i1<(iD.length:Int))then
   av (idx iD i1) fun e1=>
   av (Ky e1.name) fun x1=>
   if !x1 then
    some ((ah.mk 0 false 0 ([]:Str) [] []),1)
   else
    av (idx iD i1) fun e2=>
    av (yI e2.value) fun e3=>
    if e3 !=0 then
     some ((ah.mk 0 false 0 ([]:Str) [] []),e3)
    else
     av (idx iD i1) fun e4=>
     av (Ec e4.value) fun x2=>
     if x2==16 then
      some ((ah.mk 0 false 0 ([]:Str) [] []),13)
     else
      av (idx iD i1) fun e5=>
      eO (Hw v1 e5.name) fun x3 ok1=>
      if ok1 then
       some ((ah.mk 0 false 0 ([]:Str) [] []),7)
      else
       av (idx iD i1) fun e6=>
       av (Jr v1 e6) fun x4=>
       Av iD dW (bq (i1+1)) x4
  else
   some (v1,0)
def Kz(iD:List aB):Option (ah × Int):=
 if decide (1024<(iD.length:Int))then
  some ((ah.mk 0 false 0 ([]:Str) [] []),3)
 else
  Av iD BIG 0 (ah.mk 5 false 0 ([]:Str) [] [])
def yD(e1:aj)(l1:List ah):Nat→List aB→Int→Option (ah × Int)
 | 0,_,_=>none
 | dW+1,iD,i1=>
  if decide (i1<(l1.length:Int))then
   av (idx e1.keys i1) fun e14=>
   av (idx l1 i1) fun e15=>
   av (app iD [(aB.mk e14 e15)]) fun FY=>
   yD e1 l1 dW FY (bq (i1+1))
  else
   Kz iD
def F9(e1:aj)(l1:List ah):Option (ah × Int):=
 if e1.kind==3 then
  av (idx l1 0) fun e2=>
  av (nX e1.name) fun x1=>
  Dm e2 x1
 else
  if e1.kind==4 then
   av (idx l1 0) fun e3=>
   av (idx l1 1) fun e4=>
   Dm e3 e4
  else
   if e1.kind==5 then
    if (l1.length:Int)==1 then
     av (idx l1 0) fun e5=>
     MV e1.name e5
    else
     av (idx l1 0) fun e6=>
     av (idx l1 1) fun e7=>
     MU e1.name e6 e7
   else
    if e1.kind==6 then
     av (
       if e1.name==([33]:Str)then
        av (idx l1 0) fun e8=>
        some (e8.kind==1)
       else
        some false) fun b1=>
     if b1 then
      av (idx l1 0) fun e9=>
      av (jd (!e9.dD)) fun G8=>
      some (G8,0)
     else
      av (
        if e1.name==([45]:Str)then
         av (idx l1 0) fun e10=>
         some (e10.kind==2)
        else
         some false) fun b2=>
      if b2 then
       av (idx l1 0) fun e11=>
       some ((ah.mk 2 false (bq (0-e11.cu)) ([]:Str) [] []),0)
      else
       some ((ah.mk 0 false 0 ([]:Str) [] []),9)
    else
     if e1.kind==7 then
      av (idx l1 0) fun e12=>
      av (idx l1 1) fun e13=>
      nN e1.name e12 e13
     else
      if e1.kind==9 then
       jB (ah.mk 4 false 0 ([]:Str) l1 [])
      else
       yD e1 l1 BIG [] 0
def yF(e1:aj)(bX:List aB):Nat→Int→Option (ah × Int)
 | 0,_=>none
 | dW+1,i1=>
  if decide (i1<(bX.length:Int))then
   av (idx bX i1) fun e2=>
   if e2.name==e1.name then
    av (idx bX i1) fun e3=>
    some (e3.value,0)
   else
    yF e1 bX dW (bq (i1+1))
  else
   some ((ah.mk 0 false 0 ([]:Str) [] []),10)
def Bw(fJ:aj→List aB→Option (ah × Int))(e1:aj)(bX:List aB):Nat→List ah→Int→Option (ah × Int)
 | 0,_,_=>none
 | Xf+1,l1,i2=>
  if decide (i2<(e1.args.length:Int))then
   av (idx e1.args i2) fun e4=>
   eO (fJ e4 bX) fun x7 f1=>
   if f1 !=0 then
    some ((ah.mk 0 false 0 ([]:Str) [] []),f1)
   else
    av (app l1 [x7]) fun l2=>
    Bw fJ e1 bX Xf l2 (bq (i2+1))
  else
   F9 e1 l1
def Bz(fJ:aj→List aB→Option (ah × Int))(e1:aj)(bX:List aB):Option (ah × Int):=
 Bw fJ e1 bX BIG [] 0
def Hq(fJ iB gT:aj→List aB→Option (ah × Int))(e1:aj)(bX:List aB):Option (ah × Int):=
 if e1.kind==1 then
  some (e1.value,0)
 else
  if e1.kind==2 then
   yF e1 bX BIG 0
  else
   if e1.kind==8 then
    iB e1 bX
   else
    if (e1.kind==7)&&((e1.name==([38,38]:Str))||(e1.name==([124,124]:Str)))then
     iB e1 bX
    else
     av (
       if e1.kind==5 then
        av (Gb e1.name) fun x5=>
        some (decide (x5<0))
       else
        some false) fun b1=>
     if b1 then
      some ((ah.mk 0 false 0 ([]:Str) [] []),10)
     else
      av (
        if e1.kind==5 then
         av (Gb e1.name) fun x6=>
         some (x6 !=(e1.args.length:Int))
        else
         some false) fun b2=>
      if b2 then
       some ((ah.mk 0 false 0 ([]:Str) [] []),1)
      else
       Bz fJ e1 bX
def vN(fJ iB gT:aj→List aB→Option (ah × Int))(e1:aj)(bX:List aB):Option (ah × Int):=
 av (idx e1.args 0) fun e2=>
 eO (gT e2 bX) fun x1 f1=>
 if f1 !=0 then
  some ((ah.mk 0 false 0 ([]:Str) [] []),f1)
 else
  if e1.kind==8 then
   if x1.dD then
    av (idx e1.args 1) fun e3=>
    fJ e3 bX
   else
    av (idx e1.args 2) fun e4=>
    fJ e4 bX
  else
   if x1.dD==(e1.name==([124,124]:Str))then
    some (x1,0)
   else
    av (idx e1.args 1) fun e5=>
    gT e5 bX
def wQ(fJ iB gT:aj→List aB→Option (ah × Int))(e1:aj)(bX:List aB):Option (ah × Int):=
 eO (fJ e1 bX) fun x1 f1=>
 if (f1==0)&&(x1.kind !=1)then
  some ((ah.mk 0 false 0 ([]:Str) [] []),9)
 else
  some (x1,f1)
mutual
def jC:Nat→aj→List aB→Option (ah × Int)
 | 0,_,_=>none
 | k+1,gB,fZ=>Hq (jC k) (lD k) (ku k) gB fZ
def lD:Nat→aj→List aB→Option (ah × Int)
 | 0,_,_=>none
 | k+1,gB,fZ=>vN (jC k) (lD k) (ku k) gB fZ
def ku:Nat→aj→List aB→Option (ah × Int)
 | 0,_,_=>none
 | k+1,gB,fZ=>wQ (jC k) (lD k) (ku k) gB fZ
end
def YJ(gB:aj)(fZ:List aB):Option (ah × Int):=jC BIG gB fZ
def aaG(gB:aj)(fZ:List aB):Option (ah × Int):=lD BIG gB fZ
def YK(gB:aj)(fZ:List aB):Option (ah × Int):=ku BIG gB fZ
def Ga(e1:aj)(bX:List aB):Option (ah × Int):=
 av (Ku bX) fun f1=>
 if f1 !=0 then
  some ((ah.mk 0 false 0 ([]:Str) [] []),f1)
 else
  av (Dp e1) fun f2=>
  if f2 !=0 then
   some ((ah.mk 0 false 0 ([]:Str) [] []),f2)
  else
   YJ e1 bX
def oH(bX:List aB)(l1:List aO):Nat→Str→Int→Option (Str × Int)
 | 0,_,_=>none
 | dW+1,bK,i1=>
  if decide (i1<(l1.length:Int))then
   av (idx l1 i1) fun e2=>
   if !e2.QE then
    av (idx l1 i1) fun e3=>
    av (app bK e3.text) fun yQ=>
    oH bX l1 dW yQ (bq (i1+1))
   else
    av (idx l1 i1) fun e4=>
    eO (Ga e4.expr bX) fun x2 f2=>
    if f2 !=0 then
     some (([]:Str),f2)
    else
     eO (Gp x2) fun t1 f3=>
     if f3 !=0 then
      some (([]:Str),f3)
     else
      av (app bK t1) fun YQ=>
      oH bX l1 dW YQ (bq (i1+1))
  else
   if decide (4096<(bK.length:Int))then
    some (([]:Str),3)
   else
    some (bK,0)
def D6(s1:Str)(bX:List aB):Option (Str × Int):=
 lN (F8 s1) fun l1 x1 e1=>
 if e1 !=0 then
  some (([]:Str),e1)
 else
  av (Ku bX) fun f1=>
  if f1 !=0 then
   some (([]:Str),f1)
  else
   oH bX l1 BIG ([]:Str) 0
def qo(s1:Str)(bX:List aB):Option Bool:=
 if (decide (6000<(s1.length:Int)))||(decide (300<(bX.length:Int)))then
  Gx
 else
  eO (tZ s1 bX) fun t1 e1=>
  eO (D6 s1 bX) fun u1 f1=>
  if (t1==u1)&&(e1==f1)then
   Gx
  else
   some false
end Go.Ft
