/- Proved here: nothing: the functional texts of the functions that the statements reach, as our program wrote them. -/
import Derived.Test.YtljfgagpnpolhaaGreatDoorKfWords
set_option linter.unusedVariables false
set_option linter.unusedSimpArgs false
set_option linter.unusedSectionVars false
namespace Go.Ft
open Go
structure av where
 path:Str
 digest:BitVec 64
 deriving DecidableEq
structure aN where
 kind:Int
 text:Str
 at_:Int
 deriving DecidableEq
structure ah where
 ts:List aN
 at_:Int
 deriving DecidableEq
structure au where
 at_:Int
 code:Int
 deriving DecidableEq
structure aj where
 kind:Int
 jW:Bool
 ng:Int
 l7:Str
 dS:List aj
 keys:List Str
structure ak where
 kind:Int
 name:Str
 value:aj
 args:List ak
 keys:List Str
structure aT where
 text:Str
 MS:Bool
 expr:ak
structure aX where
 key:Str
 restore:List Str
 files:List Str
 deriving DecidableEq
structure aH where
 name:Str
 value:aj
structure aG where
 set:List (BitVec 64)
 many:Bool
 literal:Bool
 char:UInt8
 deriving DecidableEq
structure aZ where
 code:Int
 deriving DecidableEq
structure I8 where
 x:Int
 y:Int
 signed:Bool
 code:UInt8
 deriving DecidableEq
structure oM where
 x:Int
 y:Int
 signed:Bool
 code:UInt8
 deriving DecidableEq
structure I7 where
 msg:Str
 addr:BitVec 64
 deriving DecidableEq
structure jX where
 msg:Str
 addr:BitVec 64
 deriving DecidableEq
structure I6 where
 key:Str
 restore:List Str
 files:List Str
 deriving DecidableEq
structure I5 where
 spec:aX
 vars:List aH
 files:List av
structure qD where
 spec:aX
 vars:List aH
 files:List av
structure I4 where
 path:Str
 digest:BitVec 64
 deriving DecidableEq
structure IZ where
 kind:Int
 jW:Bool
 ng:Int
 l7:Str
 dS:List aj
 keys:List Str
structure IY where
 name:Str
 value:aj
structure NU where
 set:List (BitVec 64)
 many:Bool
 literal:Bool
 char:UInt8
 deriving DecidableEq
structure IX where
 kind:Int
 name:Str
 value:aj
 args:List ak
 keys:List Str
structure IW where
 text:Str
 MS:Bool
 expr:ak
structure IV where
 kind:Int
 text:Str
 at_:Int
 deriving DecidableEq
structure NT where
 kind:Int
 items:List (List UInt8)
 deriving DecidableEq
structure FD where
 kind:Int
 items:List (List UInt8)
 deriving DecidableEq
structure IU where
 ts:List aN
 at_:Int
 deriving DecidableEq
structure IQ where
 at_:Int
 code:Int
 deriving DecidableEq
structure IL where
 code:Int
 deriving DecidableEq
structure IK where
 neg:Bool
 hi:BitVec 64
 lo:BitVec 64
 deriving DecidableEq
structure pK where
 neg:Bool
 hi:BitVec 64
 lo:BitVec 64
 deriving DecidableEq
structure NS where
 half:List (BitVec 64)
 neg:Bool
 deriving DecidableEq
structure LK where
 half:List (BitVec 64)
 neg:Bool
 deriving DecidableEq
structure IJ where
 lo:UInt8
 hi:UInt8
 deriving DecidableEq
structure rT where
 lo:UInt8
 hi:UInt8
 deriving DecidableEq
structure NR where
 func:Str
 num:Str
 err:Option Nat
structure Gz where
 func:Str
 num:Str
 err:Option Nat
structure II where
 s:Str
 deriving DecidableEq
structure pQ where
 s:Str
 deriving DecidableEq
def av.bulk (x:av):Nat:=(x.path.length + 1) + 1 + 1
def aN.bulk (x:aN):Nat:=1 + (x.text.length + 1) + 1 + 1
def ah.bulk (x:ah):Nat:=((List.map (fun z:aN=>(aN.bulk z)) x.ts).sum + 1) + 1 + 1
def au.bulk (x:au):Nat:=1 + 1 + 1
mutual
def aj.bulk :aj→Nat
 | ⟨a0,a1,a2,a3,a4,a5⟩=>1 + 1 + 1 + (a3.length + 1) + (aj.qz a4 + 1) + ((List.map (fun z:Str=>(z.length + 1)) a5).sum + 1) + 1
def aj.qz :List aj→Nat
 | []=>0
 | x :: xs=>aj.bulk x + aj.qz xs
end
theorem aj.Ai :∀ l:List aj,aj.qz l=(l.map aj.bulk).sum
 | []=>rfl
 | x :: l=>by simp only [aj.qz,List.map_cons,List.sum_cons,aj.Ai l]
theorem aj.Fz (x:aj):aj.bulk x=1 + 1 + 1 + (x.l7.length + 1) + (aj.qz x.dS + 1) + ((List.map (fun z:Str=>(z.length + 1)) x.keys).sum + 1) + 1:=by cases x; rfl
mutual
def ak.bulk :ak→Nat
 | ⟨a0,a1,a2,a3,a4⟩=>1 + (a1.length + 1) + (aj.bulk a2) + (ak.qz a3 + 1) + ((List.map (fun z:Str=>(z.length + 1)) a4).sum + 1) + 1
def ak.qz :List ak→Nat
 | []=>0
 | x :: xs=>ak.bulk x + ak.qz xs
end
theorem ak.Ai :∀ l:List ak,ak.qz l=(l.map ak.bulk).sum
 | []=>rfl
 | x :: l=>by simp only [ak.qz,List.map_cons,List.sum_cons,ak.Ai l]
theorem ak.Fz (x:ak):ak.bulk x=1 + (x.name.length + 1) + (aj.bulk x.value) + (ak.qz x.args + 1) + ((List.map (fun z:Str=>(z.length + 1)) x.keys).sum + 1) + 1:=by cases x; rfl
def aT.bulk (x:aT):Nat:=(x.text.length + 1) + 1 + (ak.bulk x.expr) + 1
def aX.bulk (x:aX):Nat:=(x.key.length + 1) + ((List.map (fun z:Str=>(z.length + 1)) x.restore).sum + 1) + ((List.map (fun z:Str=>(z.length + 1)) x.files).sum + 1) + 1
def aH.bulk (x:aH):Nat:=(x.name.length + 1) + (aj.bulk x.value) + 1
def aZ.bulk (x:aZ):Nat:=1 + 1
def I8.bulk (x:I8):Nat:=1 + 1 + 1 + 1 + 1
def oM.bulk (x:oM):Nat:=1 + 1 + 1 + 1 + 1
def I7.bulk (x:I7):Nat:=(x.msg.length + 1) + 1 + 1
def jX.bulk (x:jX):Nat:=(x.msg.length + 1) + 1 + 1
def I6.bulk (x:I6):Nat:=(x.key.length + 1) + ((List.map (fun z:Str=>(z.length + 1)) x.restore).sum + 1) + ((List.map (fun z:Str=>(z.length + 1)) x.files).sum + 1) + 1
def I5.bulk (x:I5):Nat:=(aX.bulk x.spec) + ((List.map (fun z:aH=>(aH.bulk z)) x.vars).sum + 1) + ((List.map (fun z:av=>(av.bulk z)) x.files).sum + 1) + 1
def qD.bulk (x:qD):Nat:=(aX.bulk x.spec) + ((List.map (fun z:aH=>(aH.bulk z)) x.vars).sum + 1) + ((List.map (fun z:av=>(av.bulk z)) x.files).sum + 1) + 1
def I4.bulk (x:I4):Nat:=(x.path.length + 1) + 1 + 1
def IZ.bulk (x:IZ):Nat:=1 + 1 + 1 + (x.l7.length + 1) + (aj.qz x.dS + 1) + ((List.map (fun z:Str=>(z.length + 1)) x.keys).sum + 1) + 1
def IY.bulk (x:IY):Nat:=(x.name.length + 1) + (aj.bulk x.value) + 1
def IX.bulk (x:IX):Nat:=1 + (x.name.length + 1) + (aj.bulk x.value) + (ak.qz x.args + 1) + ((List.map (fun z:Str=>(z.length + 1)) x.keys).sum + 1) + 1
def IW.bulk (x:IW):Nat:=(x.text.length + 1) + 1 + (ak.bulk x.expr) + 1
def IV.bulk (x:IV):Nat:=1 + (x.text.length + 1) + 1 + 1
def IU.bulk (x:IU):Nat:=((List.map (fun z:aN=>(aN.bulk z)) x.ts).sum + 1) + 1 + 1
def IQ.bulk (x:IQ):Nat:=1 + 1 + 1
def IL.bulk (x:IL):Nat:=1 + 1
def IK.bulk (x:IK):Nat:=1 + 1 + 1 + 1
def pK.bulk (x:pK):Nat:=1 + 1 + 1 + 1
def IJ.bulk (x:IJ):Nat:=1 + 1 + 1
def rT.bulk (x:rT):Nat:=1 + 1 + 1
def II.bulk (x:II):Nat:=(x.s.length + 1) + 1
def pQ.bulk (x:pQ):Nat:=(x.s.length + 1) + 1
def jO (l1:List av):Nat→Int→Option Bool
 | 0,_=>none
 | bQ + 1,i1=>
  if (decide (i1 < (l1.length:Int))) && (decide (i1 < 20)) then
   aB (idx l1 i1) fun e1=>
   if decide (120 < (e1.path.length:Int)) then
    some false
   else
    jO l1 bQ (bW (i1 + 1))
  else
   some (decide ((l1.length:Int)≤20))
def tZ (l1:List av):Option Bool:=
 jO l1 BIG 0
def gW (l1:List Str):Nat→Int→Option Bool
 | 0,_=>none
 | bQ + 1,i1=>
  if (decide (i1 < (l1.length:Int))) && (decide (i1 < 10)) then
   aB (idx l1 i1) fun e1=>
   if decide (60 < (e1.length:Int)) then
    some false
   else
    gW l1 bQ (bW (i1 + 1))
  else
   some (decide ((l1.length:Int)≤10))
def nN (l1:List Str):Option Bool:=
 gW l1 BIG 0
def iG (s1:Str) (lg:Str):Option Bool:=
 if decide ((lg.length:Int)≤(s1.length:Int)) then
  aB (sl s1 0 (lg.length:Int)) fun x1=>
  some (x1 == lg)
 else
  some false
def strings_HasPrefix (s1:Str) (lg:Str):Option Bool:=
 iG s1 lg
def fM (s1:Str):Nat→Int→Int→Option Int
 | 0,_,_=>none
 | bQ + 1,at2,gH=>
  if decide (at2 < (s1.length:Int)) then
   aB (idx s1 at2) fun x1=>
   if (x1.toNat:Int) == 34 then
    none
   else
    if (x1.toNat:Int) == 123 then
     fM s1 bQ (bW (at2 + 1)) (bW (gH + 1))
    else
     if (x1.toNat:Int) == 125 then
      if gH == 0 then
       some at2
      else
       fM s1 bQ (bW (at2 + 1)) (bW (gH - 1))
     else
      fM s1 bQ (bW (at2 + 1)) gH
  else
   some (-1)
def oh (s1:Str) (iC:Int):Option Int:=
 fM s1 BIG iC 0
def n_ (gM:Int):Option Bool:=
 some ((gM == 32) || (gM == 9))
def lH (s1:Str) (tu:UInt8→Option Bool):Nat→Int→Option Int
 | 0,_=>none
 | bQ + 1,at2=>
  aB (
    if decide (at2 < (s1.length:Int)) then
     aB (idx s1 at2) fun x1=>
     tu x1
    else
     some false) fun b1=>
  if b1 then
   lH s1 tu bQ (bW (at2 + 1))
  else
   some at2
def o7 (s1:Str) (iC:Int) (tu:UInt8→Option Bool):Option Int:=
 lH s1 tu BIG iC
def lI (c1:UInt8):Option Bool:=
 some ((c1.toNat:Int) != 10)
def nM (c1:UInt8):Option Bool:=
 some ((((decide (97≤(c1.toNat:Int))) && (decide ((c1.toNat:Int)≤122))) || ((decide (65≤(c1.toNat:Int))) && (decide ((c1.toNat:Int)≤90)))) || ((c1.toNat:Int) == 95))
def o8 (c1:UInt8):Option Bool:=
 some ((decide (48≤(c1.toNat:Int))) && (decide ((c1.toNat:Int)≤57)))
def nL (c1:UInt8):Option Bool:=
 aB (nM c1) fun x1=>
 if x1 then
  some true
 else
  o8 c1
def uZ (gD:Str) (iC:Int):Option (aN × Int × Int):=
 aB (o7 gD iC nL) fun wC=>
 if decide (64 < (bW (wC - iC))) then
  some ((aN.mk 0 ([]:Str) 0),0,3)
 else
  aB (sl gD iC wC) fun x1=>
  some ((aN.mk 1 x1 iC),wC,0)
def sU (gD:Str) (iC:Int):Option (aN × Int × Int):=
 aB (idx gD iC) fun c1=>
 aB (nM c1) fun x1=>
 if x1 then
  uZ gD iC
 else
  aB (o8 c1) fun x5=>
  if x5 then
   none
  else
   if (c1.toNat:Int) == 34 then
    none
   else
    none
def fu (gD:Str):Nat→List aN→Int→Int→Nat→Option (List aN × Int × Int)
 | 0,_,_,_,_=>none
 | bQ + 1,bI,qm,gH,pos1=>
  if decide (pos1 < gD.length) then
   aB (
     if decide ((pos1:Int) < qm) then
      some true
     else
      n_ ((dec gD pos1).1:Int)) fun b1=>
   if b1 then
    fu gD bQ bI qm gH (pos1 + (dec gD pos1).2)
   else
    if ((dec gD pos1).1:Int) == 35 then
     aB (o7 gD (pos1:Int) lI) fun H9=>
     fu gD bQ bI H9 gH (pos1 + (dec gD pos1).2)
    else
     if ((dec gD pos1).1:Int) == 10 then
      aB (
        if gH == 0 then
         if (bI.length:Int) == 0 then
          some true
         else
          aB (idx bI (bW ((bI.length:Int) - 1))) fun e1=>
          some (e1.kind != 5)
        else
         some false) fun b2=>
      if b2 then
       aB (app bI [(aN.mk 5 ([]:Str) (pos1:Int))]) fun nA=>
       fu gD bQ nA qm gH (pos1 + (dec gD pos1).2)
      else
       fu gD bQ bI qm gH (pos1 + (dec gD pos1).2)
     else
      qA (sU gD (pos1:Int)) fun x2 wC e2=>
      if e2 != 0 then
       some ([],(pos1:Int),e2)
      else
       if x2.kind == 4 then
        none
       else
        aB (app bI [x2]) fun ny=>
        fu gD bQ ny wC gH (pos1 + (dec gD pos1).2)
  else
   some (bI,0,0)
def qU (gD:Str):Option (List aN × Int × Int):=
 if decide (65536 < (gD.length:Int)) then
  some ([],0,3)
 else
  fu gD BIG [] 0 0 0
def mU (c1:UInt8):Option Bool:=
 some ((((decide (97≤(c1.toNat:Int))) && (decide ((c1.toNat:Int)≤122))) || ((decide (65≤(c1.toNat:Int))) && (decide ((c1.toNat:Int)≤90)))) || ((c1.toNat:Int) == 95))
def qN (c1:UInt8):Option Bool:=
 some ((decide (48≤(c1.toNat:Int))) && (decide ((c1.toNat:Int)≤57)))
def lu (s1:Str):Nat→Int→Option Bool
 | 0,_=>none
 | bQ + 1,i1=>
  if decide (i1 < (s1.length:Int)) then
   aB (idx s1 i1) fun x3=>
   aB (mU x3) fun x4=>
   aB (
     if !x4 then
      aB (idx s1 i1) fun x5=>
      aB (qN x5) fun x6=>
      some (!x6)
     else
      some false) fun b2=>
   if b2 then
    some false
   else
    lu s1 bQ (bW (i1 + 1))
  else
   some true
def oZ (s1:Str):Option Bool:=
 aB (
   if (decide ((s1.length:Int) < 1)) || (decide (64 < (s1.length:Int))) then
    some true
   else
    aB (idx s1 0) fun x1=>
    aB (mU x1) fun x2=>
    some (!x2)) fun b1=>
 if b1 then
  some false
 else
  lu s1 BIG 0
def sM (t1:aN):Option Bool:=
 if t1.kind == 1 then
  oZ t1.text
 else
  if t1.kind == 2 then
   none
  else
   if t1.kind == 3 then
    some (decide ((t1.text.length:Int)≤4096))
   else
    if t1.kind == 4 then
     some true
    else
     some false
def gG (gM:ah):Option (aN × ah):=
 aB (
   if decide (gM.at_ < (gM.ts.length:Int)) then
    aB (idx gM.ts gM.at_) fun e1=>
    sM e1
   else
    some false) fun b1=>
 if b1 then
  aB (idx gM.ts gM.at_) fun e2=>
  some (e2,gM)
 else
  some ((aN.mk 0 ([]:Str) 0),gM)
def l9 (gM:ah) (op1:Str):Option (Bool × ah):=
 fG (gG gM) fun x1 y1=>
 some (((x1.kind == 4) && (x1.text == op1)),y1)
def bL (gM:ah) (op1:Str):Option (Bool × ah):=
 fG (l9 gM op1) fun x1 y1=>
 if !x1 then
  some (false,y1)
 else
  some (true,(ah.mk y1.ts (bW (y1.at_ + 1))))
def iT (gM:ah):Option (gB au aN × ah):=
 if decide ((gM.ts.length:Int)≤gM.at_) then
  none
 else
  fG (gG gM) fun x1 y1=>
  if x1.kind == 0 then
   none
  else
   some (.ok x1,y1)
def m_ (s1:Str):Option Bool:=
 some (((s1 == ([116,114,117,101]:Str)) || (s1 == ([102,97,108,115,101]:Str))) || (s1 == ([110,117,108,108]:Str)))
def kH (gM:ah) (s1:Str):Option (gB au ak × ah):=
 if s1 == ([110,117,108,108]:Str) then
  none
 else
  aB (m_ s1) fun x1=>
  if x1 then
   none
  else
   fG (bL gM ([40]:Str)) fun x2 y1=>
   if x2 then
    none
   else
    some (.ok (ak.mk 2 s1 (aj.mk 0 false 0 ([]:Str) [] []) [] []),y1)
def kr (op1:Str):Option Int:=
 if op1 == ([124,124]:Str) then
  some 2
 else
  if op1 == ([38,38]:Str) then
   some 3
  else
   if op1 == ([61,61]:Str) then
    some 4
   else
    if op1 == ([33,61]:Str) then
     some 4
    else
     if op1 == ([60]:Str) then
      some 4
     else
      if op1 == ([60,61]:Str) then
       some 4
      else
       if op1 == ([62]:Str) then
        some 4
       else
        if op1 == ([62,61]:Str) then
         some 4
        else
         if op1 == ([43]:Str) then
          some 5
         else
          if op1 == ([45]:Str) then
           some 5
          else
           if op1 == ([42]:Str) then
            some 6
           else
            if op1 == ([47]:Str) then
             some 6
            else
             if op1 == ([37]:Str) then
              some 6
             else
              some 0
def gV (aA:ah→Option (gB au ak × ah)) (ay:ah→Int→Option (gB au ak × ah)) (aD:ah→Option (gB au ak × ah)) (aF:ah→Option (gB au ak × ah)) (aM:ah→Option (gB au ak × ah)) (gM:ah):Option (gB au ak × ah):=
 jM (ay gM 2) (fun e1 y2=>some (.bad e1,y2)) fun x1 y1=>
 fG (bL y1 ([63]:Str)) fun x2 y3=>
 if !x2 then
  some (.ok x1,y3)
 else
  jM (aA y3) (fun e2 y5=>some (.bad e2,y5)) fun x3 y4=>
  none
def eX (ay:ah→Int→Option (gB au ak × ah)) (n1:Int):Nat→ak→ah→Option (gB au ak × ah)
 | 0,_,_=>none
 | bQ + 1,e3,y5=>
  fG (gG y5) fun x3 y6=>
  aB (
    if x3.kind != 4 then
     some true
    else
     aB (kr x3.text) fun x4=>
     some (x4 != n1)) fun b1=>
  if b1 then
   some (.ok e3,y6)
  else
   jM (ay (ah.mk y6.ts (bW (y6.at_ + 1))) (bW (n1 + 1))) (fun e4 y8=>some (.bad e4,y8)) fun x5 y7=>
   if n1 == 4 then
    some (.ok (ak.mk 7 x3.text (aj.mk 0 false 0 ([]:Str) [] []) [e3,x5] []),y7)
   else
    eX ay n1 bQ (ak.mk 7 x3.text (aj.mk 0 false 0 ([]:Str) [] []) [e3,x5] []) y7
def gU (aA:ah→Option (gB au ak × ah)) (ay:ah→Int→Option (gB au ak × ah)) (aD:ah→Option (gB au ak × ah)) (aF:ah→Option (gB au ak × ah)) (aM:ah→Option (gB au ak × ah)) (gM:ah) (n1:Int):Option (gB au ak × ah):=
 if n1 == 7 then
  jM (aD gM) (fun e1 y2=>some (.bad e1,y2)) fun x1 y1=>
  some (.ok x1,y1)
 else
  jM (ay gM (bW (n1 + 1))) (fun e2 y4=>some (.bad e2,y4)) fun x2 y3=>
  eX ay n1 BIG x2 y3
def fT (aD:ah→Option (gB au ak × ah)) (aF:ah→Option (gB au ak × ah)):Nat→Int→ah→Option (gB au ak × ah)
 | 0,_,_=>none
 | bQ + 1,x1,y1=>
  if decide (x1 < (([([33]:Str),([45]:Str)]:List Str).length:Int)) then
   aB (idx ([([33]:Str),([45]:Str)]:List Str) x1) fun op1=>
   fG (bL y1 op1) fun x2 y2=>
   if x2 then
    jM (aD y2) (fun e1 y4=>some (.bad e1,y4)) fun x3 y3=>
    some (.ok (ak.mk 6 op1 (aj.mk 0 false 0 ([]:Str) [] []) [x3] []),y3)
   else
    fT aD aF bQ (bW (x1 + 1)) y2
  else
   jM (aF y1) (fun e2 y6=>some (.bad e2,y6)) fun x4 y5=>
   some (.ok x4,y5)
def jl (aA:ah→Option (gB au ak × ah)) (ay:ah→Int→Option (gB au ak × ah)) (aD:ah→Option (gB au ak × ah)) (aF:ah→Option (gB au ak × ah)) (aM:ah→Option (gB au ak × ah)) (gM:ah):Option (gB au ak × ah):=
 fT aD aF BIG 0 gM
def fU (aA:ah→Option (gB au ak × ah)):Nat→ak→ah→Option (gB au ak × ah)
 | 0,_,_=>none
 | bQ + 1,e2,y3=>
  fG (bL y3 ([46]:Str)) fun x2 y4=>
  if x2 then
   jM (iT y4) (fun e3 y6=>some (.bad e3,y6)) fun x3 y5=>
   aB (
     if x3.kind != 1 then
      some true
     else
      m_ x3.text) fun b1=>
   if b1 then
    none
   else
    fU aA bQ (ak.mk 3 x3.text (aj.mk 0 false 0 ([]:Str) [] []) [e2] []) (ah.mk y5.ts (bW (y5.at_ + 1)))
  else
   fG (bL y4 ([91]:Str)) fun x5 y7=>
   if x5 then
    jM (aA y7) (fun e4 y9=>some (.bad e4,y9)) fun x6 y8=>
    none
   else
    some (.ok e2,y7)
def jm (aA:ah→Option (gB au ak × ah)) (ay:ah→Int→Option (gB au ak × ah)) (aD:ah→Option (gB au ak × ah)) (aF:ah→Option (gB au ak × ah)) (aM:ah→Option (gB au ak × ah)) (gM:ah):Option (gB au ak × ah):=
 jM (aM gM) (fun e1 y2=>some (.bad e1,y2)) fun x1 y1=>
 fU aA BIG x1 y1
def jE (aA:ah→Option (gB au ak × ah)) (ay:ah→Int→Option (gB au ak × ah)) (aD:ah→Option (gB au ak × ah)) (aF:ah→Option (gB au ak × ah)) (aM:ah→Option (gB au ak × ah)) (gM:ah):Option (gB au ak × ah):=
 jM (iT gM) (fun e1 y2=>some (.bad e1,y2)) fun x1 y1=>
 if x1.kind == 2 then
  none
 else
  if x1.kind == 3 then
   none
  else
   if x1.kind == 1 then
    jM (kH (ah.mk y1.ts (bW (y1.at_ + 1))) x1.text) (fun e2 y4=>some (.bad e2,y4)) fun x2 y3=>
    some (.ok x2,y3)
   else
    fG (bL y1 ([40]:Str)) fun x3 y5=>
    if x3 then
     jM (aA y5) (fun e3 y7=>some (.bad e3,y7)) fun x4 y6=>
     none
    else
     fG (bL y5 ([91]:Str)) fun x5 y8=>
     if x5 then
      none
     else
      fG (bL y8 ([123]:Str)) fun x6 y9=>
      if x6 then
       none
      else
       none
mutual
def aW :Nat→ah→Option (gB au ak × ah)
 | 0,_=>none
 | k + 1,dY=>gV (aW k) (aV k) (bA k) (bB k) (bC k) dY
def aV :Nat→ah→Int→Option (gB au ak × ah)
 | 0,_,_=>none
 | k + 1,dY,Gu=>gU (aW k) (aV k) (bA k) (bB k) (bC k) dY Gu
def bA :Nat→ah→Option (gB au ak × ah)
 | 0,_=>none
 | k + 1,dY=>jl (aW k) (aV k) (bA k) (bB k) (bC k) dY
def bB :Nat→ah→Option (gB au ak × ah)
 | 0,_=>none
 | k + 1,dY=>jm (aW k) (aV k) (bA k) (bB k) (bC k) dY
def bC :Nat→ah→Option (gB au ak × ah)
 | 0,_=>none
 | k + 1,dY=>jE (aW k) (aV k) (bA k) (bB k) (bC k) dY
end
def kS (dY:ah):Option (gB au ak × ah):=aW BIG dY
def qj (dY:ah) (Gu:Int):Option (gB au ak × ah):=aV BIG dY Gu
def uo (dY:ah):Option (gB au ak × ah):=bA BIG dY
def uq (dY:ah):Option (gB au ak × ah):=bB BIG dY
def uX (dY:ah):Option (gB au ak × ah):=bC BIG dY
def sN (El:List aN):Option (ak × Int × Int):=
 jM (kS (ah.mk El 0)) (fun f1 _=>some ((ak.mk 0 ([]:Str) (aj.mk 0 false 0 ([]:Str) [] []) [] []),f1.at_,f1.code)) fun e1 r1=>
 some (e1,r1.at_,0)
def ku (dK:ak→Option Int) (e1:ak):Nat→Int→Int→Option Int
 | 0,_,_=>none
 | bQ + 1,n1,x1=>
  if decide (x1 < (e1.args.length:Int)) then
   aB (idx e1.args x1) fun e2=>
   aB (dK e2) fun x2=>
   ku dK e1 bQ (bW (n1 + x2)) (bW (x1 + 1))
  else
   some n1
def nY (dK:ak→Option Int) (e1:ak):Option Int:=
 ku dK e1 BIG 1 0
def jF :Nat→ak→Option Int
 | 0,_=>none
 | k + 1,rF=>nY (jF k) rF
def vR (rF:ak):Option Int:=jF BIG rF
def sK (v1:aj):Option Bool:=
 some ((((((v1.kind == 0) && (!v1.jW)) && (v1.ng == 0)) && (v1.l7 == ([]:Str))) && ((v1.dS.length:Int) == 0)) && ((v1.keys.length:Int) == 0))
def lq (s1:Str):Option Bool:=
 aB (oZ s1) fun x1=>
 if x1 then
  aB (m_ s1) fun x2=>
  some (!x2)
 else
  some false
def qL (e1:ak):Option Bool:=
 if e1.kind == 2 then
  lq e1.name
 else
  if e1.kind == 3 then
   lq e1.name
  else
   if e1.kind == 5 then
    lq e1.name
   else
    if e1.kind == 6 then
     some ((e1.name == ([33]:Str)) || (e1.name == ([45]:Str)))
    else
     if e1.kind == 7 then
      aB (kr e1.name) fun x4=>
      some (decide (0 < x4))
     else
      some (e1.name == ([]:Str))
def qO (e1:ak):Option Bool:=
 if e1.kind == 1 then
  some ((e1.args.length:Int) == 0)
 else
  if e1.kind == 2 then
   some ((e1.args.length:Int) == 0)
  else
   if e1.kind == 3 then
    some ((e1.args.length:Int) == 1)
   else
    if e1.kind == 6 then
     some ((e1.args.length:Int) == 1)
    else
     if e1.kind == 4 then
      some ((e1.args.length:Int) == 2)
     else
      if e1.kind == 7 then
       some ((e1.args.length:Int) == 2)
      else
       if e1.kind == 8 then
        some ((e1.args.length:Int) == 3)
       else
        some true
def b_ (s1:List Str) (f1:Str→Option Bool):Nat→Int→Option Int
 | 0,_=>none
 | bQ + 1,i1=>
  if decide (i1 < (s1.length:Int)) then
   aB (idx s1 i1) fun e1=>
   aB (f1 e1) fun x1=>
   if x1 then
    some i1
   else
    b_ s1 f1 bQ (bW (i1 + 1))
  else
   some (-1)
def eU (s1:List Str) (f1:Str→Option Bool):Option Int:=
 b_ s1 f1 BIG 0
def dW (s1:List Str) (f1:Str→Option Bool):Option Bool:=
 aB (eU s1 f1) fun x1=>
 some (decide (0≤x1))
def lC (Cn:Str):Option Bool:=
 some ((decide ((Cn.length:Int) < 1)) || (decide (64 < (Cn.length:Int))))
def qM (e1:ak):Option Bool:=
 if e1.kind != 10 then
  some ((e1.keys.length:Int) == 0)
 else
  if (e1.keys.length:Int) == (e1.args.length:Int) then
   aB (dW e1.keys lC) fun x1=>
   some (!x1)
  else
   some false
def mO {β:Type} (go:β→aj→Int→Option (Bool × β)) (v1:aj) (bq:Int):Nat→β→Int→Option (Bool × β)
 | 0,_,_=>none
 | bQ + 1,s1,i1=>
  if decide (i1 < (v1.dS.length:Int)) then
   aB (idx v1.dS i1) fun x1=>
   fG (go s1 x1 (bW (bq + 1))) fun b1 s2=>
   if !b1 then
    some (false,s2)
   else
    mO go v1 bq bQ s2 (bW (i1 + 1))
  else
   some (true,s1)
def qF {β:Type} (go:β→aj→Int→Option (Bool × β)) (y:β→Int→aj→Option (Bool × β)) (s1:β) (v1:aj) (bq:Int):Option (Bool × β):=
 fG (y s1 bq v1) fun b1 s2=>
 if !b1 then
  some (false,s2)
 else
  mO go v1 bq BIG s2 0
def nJ {β:Type} (y:β→Int→aj→Option (Bool × β)):Nat→β→aj→Int→Option (Bool × β)
 | 0,_,_,_=>none
 | k + 1,s1,v1,bq=>qF (nJ y k) y s1 v1 bq
def yQ {β:Type} (y:β→Int→aj→Option (Bool × β)) (s1:β) (v1:aj) (bq:Int):Option (Bool × β):=nJ y BIG s1 v1 bq
def qG (v1:aj):Option Bool:=
 some ((((((v1.kind == 1) || (!v1.jW)) && ((v1.kind == 2) || (v1.ng == 0))) && ((v1.kind == 3) || (v1.l7 == ([]:Str)))) && (((v1.kind == 4) || (v1.kind == 5)) || ((v1.dS.length:Int) == 0))) && ((v1.kind == 5) || ((v1.keys.length:Int) == 0)))
def mq :Nat→Str→Str→Option Int
 | 0,_,_=>none
 | bQ + 1,a2,b2=>
  if (!(a2 == ([]:Str))) && (!(b2 == ([]:Str))) then
   none
  else
   none
def p8 (a1:Str) (b1:Str):Option Int:=
 mq BIG a1 b1
def kX (v1:aj):Nat→Int→Option Bool
 | 0,_=>none
 | bQ + 1,i1=>
  if decide (i1 < (v1.keys.length:Int)) then
   aB (idx v1.keys i1) fun Cn=>
   aB (
     if (decide ((Cn.length:Int) < 1)) || (decide (64 < (Cn.length:Int))) then
      some true
     else
      if decide (0 < i1) then
       aB (idx v1.keys (bW (i1 - 1))) fun e1=>
       aB (p8 e1 Cn) fun x1=>
       some (decide (0≤x1))
      else
       some false) fun b1=>
   if b1 then
    some false
   else
    kX v1 bQ (bW (i1 + 1))
  else
   some true
def sw (v1:aj):Option Bool:=
 if (v1.keys.length:Int) != (v1.dS.length:Int) then
  some false
 else
  kX v1 BIG 0
def uT (v1:aj) (bq:Int):Option Int:=
 if decide (16 < bq) then
  some 13
 else
  aB (
    if (decide (v1.kind < 0)) || (decide (5 < v1.kind)) then
     some true
    else
     aB (qG v1) fun x1=>
     some (!x1)) fun b1=>
  if b1 then
   some 1
  else
   if (decide (v1.ng < (-9007199254740992))) || (decide (9007199254740992 < v1.ng)) then
    some 2
   else
    if ((decide (4096 < (v1.l7.length:Int))) || (decide (1024 < (v1.dS.length:Int)))) || (decide (1024 < (v1.keys.length:Int))) then
     some 3
    else
     aB (
       if v1.kind == 5 then
        aB (sw v1) fun x2=>
        some (!x2)
       else
        some false) fun b2=>
     if b2 then
      some 1
     else
      if (((v1.kind == 4) || (v1.kind == 5)) && ((v1.dS.length:Int) == 0)) && (bq == 16) then
       some 13
      else
       some 0
def mP (s1:Option Int) (bq:Int) (x1:aj):Option (Bool × Option Int):=
 match s1 with
 | some _=>none
 | none=>
  aB (uT x1 bq) fun e1=>
  if !(e1 == 0) then
   some (false,some e1)
  else
   some (true,none)
def kQ (v1:aj):Option Int:=
 fG (yQ mP none v1 1) fun _ s1=>
 some (s1.getD 0)
def iR (l1:List Str):Nat→Int→List (Str × Int)→Option Bool
 | 0,_,_=>none
 | bQ + 1,x1,y1=>
  if decide (x1 < (l1.length:Int)) then
   aB (idx l1 x1) fun s1=>
   if decide (1 < (uw (pW y1 s1 (bW ((uw y1 s1) + 1))) s1)) then
    some true
   else
    iR l1 bQ (bW (x1 + 1)) (pW y1 s1 (bW ((uw y1 s1) + 1)))
  else
   some false
def nu (l1:List Str):Option Bool:=
 iR l1 BIG 0 []
def sO (e1:ak) (bq:Int):Option Int:=
 if decide (16 < bq) then
  some 13
 else
  aB (
    if (decide (e1.kind < 1)) || (decide (10 < e1.kind)) then
     some true
    else
     if e1.kind != 1 then
      aB (sK e1.value) fun x1=>
      some (!x1)
     else
      some false) fun b1=>
  aB (
    if b1 then
     some true
    else
     aB (qL e1) fun x2=>
     some (!x2)) fun b3=>
  aB (
    if b3 then
     some true
    else
     aB (qO e1) fun x3=>
     some (!x3)) fun b4=>
  aB (
    if b4 then
     some true
    else
     aB (qM e1) fun x4=>
     some (!x4)) fun b5=>
  if b5 then
   some 1
  else
   aB (
     if e1.kind == 1 then
      aB (kQ e1.value) fun x5=>
      some (x5 != 0)
     else
      some false) fun b6=>
   if b6 then
    kQ e1.value
   else
    if decide (1024 < (e1.args.length:Int)) then
     some 3
    else
     aB (nu e1.keys) fun x7=>
     if x7 then
      some 7
     else
      some 0
def ko (dJ:ak→Int→Option Int) (e1:ak) (bq:Int):Nat→Int→Option Int
 | 0,_=>none
 | bQ + 1,x1=>
  if decide (x1 < (e1.args.length:Int)) then
   aB (idx e1.args x1) fun e2=>
   aB (dJ e2 (bW (bq + 1))) fun f2=>
   if f2 != 0 then
    some f2
   else
    ko dJ e1 bq bQ (bW (x1 + 1))
  else
   some 0
def nX (dJ:ak→Int→Option Int) (e1:ak) (bq:Int):Option Int:=
 aB (sO e1 bq) fun f1=>
 if f1 != 0 then
  some f1
 else
  ko dJ e1 bq BIG 0
def jD :Nat→ak→Int→Option Int
 | 0,_,_=>none
 | k + 1,rF,kg=>nX (jD k) rF kg
def vQ (rF:ak) (kg:Int):Option Int:=jD BIG rF kg
def lD (e1:ak):Option Int:=
 aB (vR e1) fun x1=>
 if decide (4096 < x1) then
  some 15
 else
  vQ e1 1
def sQ (El:List aN):Option (ak × Int × Int):=
 qA (sN El) fun x1 n1 lV=>
 if lV != 0 then
  some ((ak.mk 0 ([]:Str) (aj.mk 0 false 0 ([]:Str) [] []) [] []),n1,lV)
 else
  aB (lD x1) fun uM=>
  if uM != 0 then
   some ((ak.mk 0 ([]:Str) (aj.mk 0 false 0 ([]:Str) [] []) [] []),0,uM)
  else
   some (x1,n1,0)
def qP (gD:Str):Option (ak × Int × Int):=
 qA (qU gD) fun El iC lV=>
 if lV != 0 then
  some ((ak.mk 0 ([]:Str) (aj.mk 0 false 0 ([]:Str) [] []) [] []),iC,lV)
 else
  qA (sQ El) fun x1 n1 uM=>
  if uM != 0 then
   none
  else
   if decide (n1 < (El.length:Int)) then
    aB (idx El n1) fun e1=>
    some ((ak.mk 0 ([]:Str) (aj.mk 0 false 0 ([]:Str) [] []) [] []),e1.at_,5)
   else
    some (x1,0,0)
def gY (dR:List aT) (text1:Str):Option (List aT):=
 if decide (0 < (text1.length:Int)) then app dR [(aT.mk text1 false (ak.mk 0 ([]:Str) (aj.mk 0 false 0 ([]:Str) [] []) [] []))] else some dR
def gX (s1:Str):Nat→Int→List aT→Str→Option (List aT × Int × Int)
 | 0,_,_,_=>none
 | bQ + 1,iC,dR,text1=>
  if decide (iC < (s1.length:Int)) then
   aB (sl s1 iC (s1.length:Int)) fun Hr=>
   aB (strings_HasPrefix Hr ([36,36]:Str)) fun b1=>
   if b1 then
    aB (app text1 [36]) fun G9=>
    gX s1 bQ (bW (iC + 2)) dR G9
   else
    aB (strings_HasPrefix Hr ([36,123]:Str)) fun b2=>
    if b2 then
     aB (oh s1 (bW (iC + 2))) fun wC=>
     if decide (wC < 0) then
      some ([],iC,4)
     else
      aB (sl s1 (bW (iC + 2)) wC) fun x1=>
      qA (qP x1) fun e1 n1 lV=>
      if lV != 0 then
       some ([],(bW ((bW (iC + 2)) + n1)),lV)
      else
       aB (gY dR text1) fun Cc=>
       aB (app Cc [(aT.mk ([]:Str) true e1)]) fun Cb=>
       gX s1 bQ (bW (wC + 1)) Cb []
    else
     aB (idx s1 iC) fun c1=>
     aB (app text1 [c1]) fun G8=>
     gX s1 bQ (bW (iC + 1)) dR G8
  else
   aB (gY dR text1) fun Fu=>
   some (Fu,0,0)
def nO (s1:Str):Option (List aT × Int × Int):=
 if decide (4096 < (s1.length:Int)) then
  some ([],0,3)
 else
  gX s1 BIG 0 [] []
def kC (s1:Str):Option Int:=
 if s1 == ([]:Str) then
  some 1
 else
  qA (nO s1) fun x1 x2 e1=>
  some e1
def lX (c1:aX):Nat→Int→Option Int
 | 0,_=>none
 | yc + 1,x2=>
  if decide (x2 < (c1.files.length:Int)) then
   aB (idx c1.files x2) fun s2=>
   none
  else
   some 0
def jy (c1:aX):Nat→Int→Option Int
 | 0,_=>none
 | bQ + 1,x1=>
  if decide (x1 < (c1.restore.length:Int)) then
   aB (idx c1.restore x1) fun s1=>
   aB (kC s1) fun e2=>
   if e2 != 0 then
    some e2
   else
    jy c1 bQ (bW (x1 + 1))
  else
   lX c1 BIG 0
def oD (c1:aX):Option Int:=
 aB (kC c1.key) fun e1=>
 if e1 != 0 then
  some e1
 else
  if (decide (1024 < (c1.restore.length:Int))) || (decide (1024 < (c1.files.length:Int))) then
   some 3
  else
   jy c1 BIG 0
def bX (s1:List aH) (f1:aH→Option Bool):Nat→Int→Option Int
 | 0,_=>none
 | bQ + 1,i1=>
  if decide (i1 < (s1.length:Int)) then
   aB (idx s1 i1) fun e1=>
   aB (f1 e1) fun x1=>
   if x1 then
    some i1
   else
    bX s1 f1 bQ (bW (i1 + 1))
  else
   some (-1)
def d9 (s1:List aH) (f1:aH→Option Bool):Option Int:=
 bX s1 f1 BIG 0
def dM (s1:List aH) (f1:aH→Option Bool):Option Bool:=
 aB (d9 s1 f1) fun x1=>
 some (decide (0≤x1))
def f_ (x1:aH):Option Bool:=
 some (x1.name == ([102,105,108,101,115]:Str))
def jd (s1:List (BitVec 64)) (c1:UInt8):Option (List (BitVec 64)):=
 aB (idx ([(s1.getD 0 0),(s1.getD 1 0),(s1.getD 2 0),(s1.getD 3 0)]:List (BitVec 64)) ((c1 / 64).toNat:Int)) fun e1=>
 aB (some (e1 &&& ~~~ ((1:BitVec 64) <<< (c1 % 64).toNat))) fun x1=>
 aB (idx ([(s1.getD 0 0),(s1.getD 1 0),(s1.getD 2 0),(s1.getD 3 0)]:List (BitVec 64)) ((c1 / 64).toNat:Int)) fun e2=>
 aB (some (List.set ([(s1.getD 0 0),(s1.getD 1 0),(s1.getD 2 0),(s1.getD 3 0)]:List (BitVec 64)) (Int.toNat ((c1 / 64).toNat:Int)) x1)) fun y1=>
 some ([(y1.getD 0 0),(y1.getD 1 0),(y1.getD 2 0),(y1.getD 3 0)]:List (BitVec 64))
def mE (BQ:Bool):Option (List (BitVec 64)):=
 if !BQ then
  aB (jd ([18446744073709551615,18446744073709551615,18446744073709551615,18446744073709551615]:List (BitVec 64)) 47) fun y1=>
  some ([(y1.getD 0 0),(y1.getD 1 0),(y1.getD 2 0),(y1.getD 3 0)]:List (BitVec 64))
 else
  some ([18446744073709551615,18446744073709551615,18446744073709551615,18446744073709551615]:List (BitVec 64))
def nS (s1:Str):Option (UInt8 × Int):=
 aB (
   if s1 == ([]:Str) then
    some true
   else
    aB (idx s1 0) fun x1=>
    some ((x1.toNat:Int) == 93)) fun b1=>
 aB (
   if b1 then
    some true
   else
    aB (idx s1 0) fun x2=>
    some ((x2.toNat:Int) == 45)) fun b2=>
 if b2 then
  some (0,0)
 else
  aB (idx s1 0) fun x3=>
  if (x3.toNat:Int) != 92 then
   aB (idx s1 0) fun x4=>
   some (x4,1)
  else
   if decide ((s1.length:Int) < 2) then
    some (0,0)
   else
    aB (idx s1 1) fun x5=>
    some (x5,2)
def fV (s1:List (BitVec 64)) (c1:UInt8):Option (List (BitVec 64)):=
 aB (idx ([(s1.getD 0 0),(s1.getD 1 0),(s1.getD 2 0),(s1.getD 3 0)]:List (BitVec 64)) ((c1 / 64).toNat:Int)) fun e1=>
 aB (some (e1 ||| ((1:BitVec 64) <<< (c1 % 64).toNat))) fun x1=>
 aB (idx ([(s1.getD 0 0),(s1.getD 1 0),(s1.getD 2 0),(s1.getD 3 0)]:List (BitVec 64)) ((c1 / 64).toNat:Int)) fun e2=>
 aB (some (List.set ([(s1.getD 0 0),(s1.getD 1 0),(s1.getD 2 0),(s1.getD 3 0)]:List (BitVec 64)) (Int.toNat ((c1 / 64).toNat:Int)) x1)) fun y1=>
 some ([(y1.getD 0 0),(y1.getD 1 0),(y1.getD 2 0),(y1.getD 3 0)]:List (BitVec 64))
def jg (iC:Int) (n1:Int) (o9:UInt8) (n2:Int) (iH:Int→List (BitVec 64)→Option (List (BitVec 64) × Int)):Nat→Int→List (BitVec 64)→Option (List (BitVec 64) × Int)
 | 0,_,_=>none
 | yc + 1,c1,nA=>
  if decide (c1≤(o9.toNat:Int)) then
   aB (fV ([(nA.getD 0 0),(nA.getD 1 0),(nA.getD 2 0),(nA.getD 3 0)]:List (BitVec 64)) (Ft.byteOf c1)) fun y1=>
   jg iC n1 o9 n2 iH yc (bW (c1 + 1)) ([(y1.getD 0 0),(y1.getD 1 0),(y1.getD 2 0),(y1.getD 3 0)]:List (BitVec 64))
  else
   iH (bW ((bW (iC + n1)) + (bW (1 + n2)))) ([(nA.getD 0 0),(nA.getD 1 0),(nA.getD 2 0),(nA.getD 3 0)]:List (BitVec 64))
def jf (iC:Int) (jo:UInt8) (n1:Int) (iH:Int→List (BitVec 64)→Option (List (BitVec 64) × Int)):Nat→Int→List (BitVec 64)→Option (List (BitVec 64) × Int)
 | 0,_,_=>none
 | M_ + 1,c2,ny=>
  if decide (c2≤(jo.toNat:Int)) then
   aB (fV ([(ny.getD 0 0),(ny.getD 1 0),(ny.getD 2 0),(ny.getD 3 0)]:List (BitVec 64)) (Ft.byteOf c2)) fun y2=>
   jf iC jo n1 iH M_ (bW (c2 + 1)) ([(y2.getD 0 0),(y2.getD 1 0),(y2.getD 2 0),(y2.getD 3 0)]:List (BitVec 64))
  else
   iH (bW (iC + n1)) ([(ny.getD 0 0),(ny.getD 1 0),(ny.getD 2 0),(ny.getD 3 0)]:List (BitVec 64))
def dX (s1:Str):Nat→Int→List (BitVec 64)→Option (List (BitVec 64) × Int)
 | 0,_,_=>none
 | bQ + 1,iC,bI=>
  aB (
    if iC == 1 then
     some true
    else
     if decide (iC < (s1.length:Int)) then
      aB (idx s1 iC) fun x1=>
      some ((x1.toNat:Int) != 93)
     else
      some false) fun b1=>
  if b1 then
   aB (sl s1 iC (s1.length:Int)) fun x2=>
   fG (nS x2) fun jo n1=>
   if n1 == 0 then
    some (([(bI.getD 0 0),(bI.getD 1 0),(bI.getD 2 0),(bI.getD 3 0)]:List (BitVec 64)),0)
   else
    aB (
      if decide ((bW (iC + n1)) < (s1.length:Int)) then
       aB (idx s1 (bW (iC + n1))) fun x3=>
       some ((x3.toNat:Int) == 45)
      else
       some false) fun b3=>
    if b3 then
     aB (sl s1 (bW ((bW (iC + n1)) + 1)) (s1.length:Int)) fun x4=>
     fG (nS x4) fun o9 n2=>
     if (n2 == 0) || (decide ((o9.toNat:Int) < (jo.toNat:Int))) then
      some (([(bI.getD 0 0),(bI.getD 1 0),(bI.getD 2 0),(bI.getD 3 0)]:List (BitVec 64)),0)
     else
      jg iC n1 o9 n2 (dX s1 bQ) BIG (jo.toNat:Int) ([(bI.getD 0 0),(bI.getD 1 0),(bI.getD 2 0),(bI.getD 3 0)]:List (BitVec 64))
    else
     jf iC jo n1 (dX s1 bQ) BIG (jo.toNat:Int) ([(bI.getD 0 0),(bI.getD 1 0),(bI.getD 2 0),(bI.getD 3 0)]:List (BitVec 64))
  else
   if decide ((s1.length:Int)≤iC) then
    some (([(bI.getD 0 0),(bI.getD 1 0),(bI.getD 2 0),(bI.getD 3 0)]:List (BitVec 64)),0)
   else
    aB (jd ([(bI.getD 0 0),(bI.getD 1 0),(bI.getD 2 0),(bI.getD 3 0)]:List (BitVec 64)) 47) fun y3=>
    some (([(y3.getD 0 0),(y3.getD 1 0),(y3.getD 2 0),(y3.getD 3 0)]:List (BitVec 64)),(bW (iC + 1)))
def qW (s1:Str):Option (List (BitVec 64) × Int):=
 dX s1 BIG 1 ([0,0,0,0]:List (BitVec 64))
def jR (c1:UInt8):Option aG:=
 aB (fV ([0,0,0,0]:List (BitVec 64)) c1) fun y1=>
 some (aG.mk ([(y1.getD 0 0),(y1.getD 1 0),(y1.getD 2 0),(y1.getD 3 0)]:List (BitVec 64)) false true c1)
def oo (p1:Str):Option (aG × Int):=
 aB (idx p1 0) fun x1=>
 if (x1.toNat:Int) == 42 then
  aB (
    if decide (1 < (p1.length:Int)) then
     aB (idx p1 1) fun x2=>
     some ((x2.toNat:Int) == 42)
    else
     some false) fun b1=>
  if b1 then
   aB (mE true) fun x3=>
   some ((aG.mk ([(x3.getD 0 0),(x3.getD 1 0),(x3.getD 2 0),(x3.getD 3 0)]:List (BitVec 64)) true false 0),2)
  else
   aB (mE false) fun x4=>
   some ((aG.mk ([(x4.getD 0 0),(x4.getD 1 0),(x4.getD 2 0),(x4.getD 3 0)]:List (BitVec 64)) true false 0),1)
 else
  if (x1.toNat:Int) == 63 then
   aB (mE false) fun x5=>
   some ((aG.mk ([(x5.getD 0 0),(x5.getD 1 0),(x5.getD 2 0),(x5.getD 3 0)]:List (BitVec 64)) false false 0),1)
  else
   if (x1.toNat:Int) == 91 then
    fG (qW p1) fun x6 n1=>
    some ((aG.mk ([(x6.getD 0 0),(x6.getD 1 0),(x6.getD 2 0),(x6.getD 3 0)]:List (BitVec 64)) false false 0),n1)
   else
    if (x1.toNat:Int) == 92 then
     if decide ((p1.length:Int) < 2) then
      some ((aG.mk ([0,0,0,0]:List (BitVec 64)) false false 0),0)
     else
      aB (idx p1 1) fun x7=>
      aB (jR x7) fun x8=>
      some (x8,2)
    else
     aB (idx p1 0) fun x9=>
     aB (jR x9) fun NV=>
     some (NV,1)
def je :Nat→Str→List aG→Option (List aG × Int)
 | 0,_,_=>none
 | bQ + 1,p2,l1=>
  if !(p2 == ([]:Str)) then
   fG (oo p2) fun x1 n1=>
   if n1 == 0 then
    some ([],5)
   else
    aB (app l1 [x1]) fun l2=>
    aB (sl p2 n1 (p2.length:Int)) fun p3=>
    je bQ p3 l2
  else
   some (l1,0)
def mD (p1:Str):Option (List aG × Int):=
 if decide (4096 < (p1.length:Int)) then
  some ([],3)
 else
  je BIG p1 []
def gZ (s1:List (BitVec 64)) (c1:UInt8):Option Bool:=
 aB (idx ([(s1.getD 0 0),(s1.getD 1 0),(s1.getD 2 0),(s1.getD 3 0)]:List (BitVec 64)) ((c1 / 64).toNat:Int)) fun e1=>
 aB (some ((e1 >>> (c1 % 64).toNat) &&& (1:BitVec 64))) fun x1=>
 some ((x1.toNat:Int) == 1)
def jQ (l1:List aG):Nat→Int→List Bool→Option (List Bool)
 | 0,_,_=>none
 | bQ + 1,i1,a1=>
  if decide (i1 < (l1.length:Int)) then
   aB (idx l1 i1) fun x1=>
   aB (idx a1 (bW (i1 + 1))) fun b1=>
   aB (
     if b1 then
      some true
     else
      aB (idx a1 i1) fun b2=>
      some (b2 && x1.many)) fun b3=>
   aB (some (List.set a1 (Int.toNat (bW (i1 + 1))) b3)) fun a2=>
   jQ l1 bQ (bW (i1 + 1)) a2
  else
   some a1
def kT (l1:List aG) (a1:List Bool):Option (List Bool):=
 jQ l1 BIG 0 a1
def qR (n1:Int):Option (List Bool):=if 0≤n1∧n1≤281474976710656 then some (List.replicate n1.toNat false) else none
def eP (l1:List aG) (s1:Str) (i1:Int) (a1:List Bool) (go:Int→List Bool→Option Bool):Nat→Int→List Bool→Option Bool
 | 0,_,_=>none
 | yc + 1,k1,Ci=>
  if decide (k1 < (l1.length:Int)) then
   aB (idx l1 k1) fun x1=>
   aB (idx a1 k1) fun b1=>
   aB (
     if !b1 then
      some true
     else
      aB (idx s1 i1) fun c1=>
      aB (gZ x1.set c1) fun b2=>
      some (!b2)) fun b3=>
   if b3 then
    eP l1 s1 i1 a1 go yc (bW (k1 + 1)) Ci
   else
    if x1.many then
     aB (idx Ci k1) fun b4=>
     aB (some (List.set Ci (Int.toNat k1) true)) fun K6=>
     eP l1 s1 i1 a1 go yc (bW (k1 + 1)) K6
    else
     aB (idx Ci (bW (k1 + 1))) fun b4=>
     aB (some (List.set Ci (Int.toNat (bW (k1 + 1))) true)) fun K6=>
     eP l1 s1 i1 a1 go yc (bW (k1 + 1)) K6
  else
   aB (kT l1 Ci) fun a2=>
   go (bW (i1 + 1)) a2
def eT (l1:List aG) (s1:Str):Nat→Int→List Bool→Option Bool
 | 0,_,_=>none
 | bQ + 1,i1,a1=>
  if decide (i1 < (s1.length:Int)) then
   aB (qR (bW ((l1.length:Int) + 1))) fun Ci=>
   eP l1 s1 i1 a1 (eT l1 s1 bQ) BIG 0 Ci
  else
   idx a1 (l1.length:Int)
def jG (p1:Str) (s1:Str):Option Bool:=
 fG (mD p1) fun l1 e1=>
 if e1 != 0 then
  some false
 else
  aB (qR (bW ((l1.length:Int) + 1))) fun a0=>
  aB (idx a0 0) fun b0=>
  aB (some (List.set a0 (Int.toNat 0) true)) fun a1=>
  aB (kT l1 a1) fun a2=>
  eT l1 s1 BIG 0 a2
def iM (dN:List Str) (s1:Str):Nat→Int→Option Bool
 | 0,_=>none
 | bQ + 1,i1=>
  if decide (0≤i1) then
   aB (idx dN i1) fun p1=>
   aB (
     if !(p1 == ([]:Str)) then
      aB (idx p1 0) fun x1=>
      some ((x1.toNat:Int) == 33)
     else
      some false) fun b1=>
   if b1 then
    aB (sl p1 1 (p1.length:Int)) fun p2=>
    aB (jG p2 s1) fun x2=>
    if x2 then
     some (!b1)
    else
     iM dN s1 bQ (bW (i1 - 1))
   else
    aB (jG p1 s1) fun x3=>
    if x3 then
     some (!b1)
    else
     iM dN s1 bQ (bW (i1 - 1))
  else
   some false
def j6 (dN:List Str) (s1:Str):Option Bool:=
 iM dN s1 BIG (bW ((dN.length:Int) - 1))
def dI {β:Type} (y:β→av→Option (Bool × β)) (fs1:List av) (ps1:List Str):Nat→β→Int→Option β
 | 0,_,_=>none
 | bQ + 1,s1,i1=>
  if decide (i1 < (fs1.length:Int)) then
   aB (idx fs1 i1) fun f1=>
   aB (j6 ps1 f1.path) fun b1=>
   if b1 then
    fG (y s1 f1) fun b2 s2=>
    if !b2 then
     some s2
    else
     dI y fs1 ps1 bQ s2 (bW (i1 + 1))
   else
    dI y fs1 ps1 bQ s1 (bW (i1 + 1))
  else
   some s1
def jv {β:Type} (y:β→av→Option (Bool × β)) (s1:β) (fs1:List av) (ps1:List Str):Option β:=dI y fs1 ps1 BIG s1 0
def lT (gM:BitVec 32) (Cn:BitVec 32) (i1:BitVec 32):Option (BitVec 32):=
 aB (some ((gM ^^^ Cn) * (2654435761:BitVec 32))) fun x1=>
 some ((x1 + i1) ^^^ ((x1 + i1) >>> 16))
def iA (key1:BitVec 64):Nat→BitVec 32→BitVec 32→Int→Option (BitVec 64)
 | 0,_,_,_=>none
 | bQ + 1,l1,gM,i1=>
  if decide (i1 < 4) then
   if ((i1:Int).tmod 2) == 1 then
    aB (lT gM (BitVec.setWidth 32 (key1 >>> 32)) (BitVec.ofInt 32 (bW (i1 + 1)))) fun x2=>
    iA key1 bQ gM (l1 ^^^ x2) (bW (i1 + 1))
   else
    aB (lT gM (BitVec.setWidth 32 key1) (BitVec.ofInt 32 (bW (i1 + 1)))) fun x3=>
    iA key1 bQ gM (l1 ^^^ x3) (bW (i1 + 1))
  else
   some (((BitVec.setWidth 64 l1) <<< 32) ||| (BitVec.setWidth 64 gM))
def mH (key1:BitVec 64) (x1:BitVec 64):Option (BitVec 64):=
 iA key1 BIG (BitVec.setWidth 32 (x1 >>> 32)) (BitVec.setWidth 32 x1) 0
def jh (b2:List UInt8) (x2:BitVec 64) (x3:List UInt8) (qp:List UInt8→BitVec 64→Option (BitVec 64)):Nat→BitVec 64→Int→Option (BitVec 64)
 | 0,_,_=>none
 | yc + 1,g1,i1=>
  if decide (i1 < (x3.length:Int)) then
   aB (idx x3 i1) fun c1=>
   aB (Ll (decide (0≤(bW (8 * i1))))) fun _=>
   aB (some (g1 ||| ((BitVec.setWidth 64 c1.toBitVec) <<< (Int.toNat (bW (8 * i1)))))) fun g2=>
   jh b2 x2 x3 qp yc g2 (bW (i1 + 1))
  else
   aB (mH g1 x2) fun x4=>
   aB (sl b2 (if (b2.length:Int) < 8 then (b2.length:Int) else 8) (b2.length:Int)) fun b3=>
   qp b3 (x4 ^^^ g1)
def gu :Nat→List UInt8→BitVec 64→Option (BitVec 64)
 | 0,_,_=>none
 | bQ + 1,b2,x2=>
  if decide (0 < (b2.length:Int)) then
   aB (sl b2 0 (if (b2.length:Int) < 8 then (b2.length:Int) else 8)) fun x3=>
   jh b2 x2 x3 (gu bQ) BIG 0 0
  else
   some x2
def jJ (b1:List UInt8):Option (BitVec 64):=
 aB (mH (BitVec.ofInt 64 (b1.length:Int)) 0) fun x1=>
 gu BIG b1 x1
def jS (x2:Int) (d1:BitVec 64) (rM:List UInt8→Int→Option (BitVec 64)):Nat→List UInt8→Int→Option (BitVec 64)
 | 0,_,_=>none
 | yc + 1,b3,i1=>
  if decide (i1 < 8) then
   aB (Ll (decide (0≤(bW (8 * i1))))) fun _=>
   aB (app b3 ([(UInt8.ofBitVec (BitVec.setWidth 8 (d1 >>> (Int.toNat (bW (8 * i1))))))]:List UInt8)) fun b4=>
   jS x2 d1 rM yc b4 (bW (i1 + 1))
  else
   rM b3 (bW (x2 + 1))
def ig (iQ:List (BitVec 64)):Nat→List UInt8→Int→Option (BitVec 64)
 | 0,_,_=>none
 | bQ + 1,b2,x2=>
  if decide (x2 < (iQ.length:Int)) then
   aB (idx iQ x2) fun d1=>
   jS x2 d1 (ig iQ bQ) BIG b2 0
  else
   jJ b2
def mG (Ck:Str) (iQ:List (BitVec 64)):Option (BitVec 64):=
 aB (app ([]:Str) Ck) fun x1=>
 aB (app x1 ([0]:List UInt8)) fun b1=>
 ig iQ BIG b1 0
def fP (s1:List (BitVec 64)) (x1:av):Option (Bool × List (BitVec 64)):=
 aB (app ([]:Str) x1.path) fun b1=>
 aB (jJ b1) fun d1=>
 aB (app s1 ([d1,x1.digest]:List (BitVec 64))) fun s2=>
 some (true,s2)
def gy (dB:List av) (dN:List Str):Option (BitVec 64):=
 aB (jv fP [] dB dN) fun iQ=>
 mG ([102,105,108,101,115]:Str) iQ
def lU (d1:BitVec 64):Nat→Int→List UInt8→Option Str
 | 0,_,_=>none
 | bQ + 1,i1,b1=>
  if decide (i1 < 16) then
   aB (Ll (decide (0≤(bW (60 - (bW (4 * i1))))))) fun _=>
   aB (some ((d1 >>> (Int.toNat (bW (60 - (bW (4 * i1)))))) &&& (15:BitVec 64))) fun x1=>
   aB (idx ([48,49,50,51,52,53,54,55,56,57,97,98,99,100,101,102]:Str) (x1.toNat:Int)) fun x2=>
   aB (idx ([(b1.getD 0 0),(b1.getD 1 0),(b1.getD 2 0),(b1.getD 3 0),(b1.getD 4 0),(b1.getD 5 0),(b1.getD 6 0),(b1.getD 7 0),(b1.getD 8 0),(b1.getD 9 0),(b1.getD 10 0),(b1.getD 11 0),(b1.getD 12 0),(b1.getD 13 0),(b1.getD 14 0),(b1.getD 15 0)]:List UInt8) i1) fun e1=>
   aB (some (List.set ([(b1.getD 0 0),(b1.getD 1 0),(b1.getD 2 0),(b1.getD 3 0),(b1.getD 4 0),(b1.getD 5 0),(b1.getD 6 0),(b1.getD 7 0),(b1.getD 8 0),(b1.getD 9 0),(b1.getD 10 0),(b1.getD 11 0),(b1.getD 12 0),(b1.getD 13 0),(b1.getD 14 0),(b1.getD 15 0)]:List UInt8) (Int.toNat i1) x2)) fun b2=>
   lU d1 bQ (bW (i1 + 1)) ([(b2.getD 0 0),(b2.getD 1 0),(b2.getD 2 0),(b2.getD 3 0),(b2.getD 4 0),(b2.getD 5 0),(b2.getD 6 0),(b2.getD 7 0),(b2.getD 8 0),(b2.getD 9 0),(b2.getD 10 0),(b2.getD 11 0),(b2.getD 12 0),(b2.getD 13 0),(b2.getD 14 0),(b2.getD 15 0)]:List UInt8)
  else
   some ([(b1.getD 0 0),(b1.getD 1 0),(b1.getD 2 0),(b1.getD 3 0),(b1.getD 4 0),(b1.getD 5 0),(b1.getD 6 0),(b1.getD 7 0),(b1.getD 8 0),(b1.getD 9 0),(b1.getD 10 0),(b1.getD 11 0),(b1.getD 12 0),(b1.getD 13 0),(b1.getD 14 0),(b1.getD 15 0)]:List UInt8)
def pE (d1:BitVec 64):Option Str:=
 lU d1 BIG 0 ([0,0,0,0,0,0,0,0,0,0,0,0,0,0,0,0]:List UInt8)
def bF (s1:List aH):Option (List aH):=
 app [] s1
def jK (c1:aX) (su:List aH) (dB:List av):Option (List aH × Int):=
 aB (oD c1) fun e1=>
 if e1 != 0 then
  some ([],e1)
 else
  aB (dM su f_) fun x1=>
  if x1 then
   some ([],7)
  else
   aB (gy dB c1.files) fun x2=>
   aB (pE x2) fun x3=>
   aB (bF su) fun x4=>
   aB (app x4 [(aH.mk ([102,105,108,101,115]:Str) (aj.mk 3 false 0 x3 [] []))]) fun x5=>
   some (x5,0)
def pq (fZ:List aH):Nat→Int→List (Str × Int)→Option Int
 | 0,_,_=>none
 | bQ + 1,x1,y1=>
  if decide (x1 < (fZ.length:Int)) then
   aB (idx fZ x1) fun e1=>
   aB (lD (ak.mk 2 e1.name (aj.mk 0 false 0 ([]:Str) [] []) [] [])) fun x2=>
   if x2 != 0 then
    some 1
   else
    aB (kQ e1.value) fun e2=>
    if e2 != 0 then
     some e2
    else
     if decide (1 < (uw (pW y1 e1.name (bW ((uw y1 e1.name) + 1))) e1.name)) then
      some 7
     else
      pq fZ bQ (bW (x1 + 1)) (pW y1 e1.name (bW ((uw y1 e1.name) + 1)))
  else
   some 0
def wu (fZ:List aH):Option Int:=
 if decide (1024 < (fZ.length:Int)) then
  some 3
 else
  pq fZ BIG 0 []
def sZ (e1:ak) (fZ:List aH):Option (List aH × Int):=
 aB (wu fZ) fun f1=>
 if f1 != 0 then
  some ([],f1)
 else
  aB (lD e1) fun f2=>
  if f2 != 0 then
   some ([],f2)
  else
   some (fZ,0)
def wY (e1:Int):Option (gB aZ Unit):=
 some (.bad (aZ.mk e1))
def iW (s1:List aH) (name1:Str):Nat→Int→Option (gB aZ aj)
 | 0,_=>none
 | bQ + 1,x1=>
  if decide (x1 < (s1.length:Int)) then
   aB (idx s1 x1) fun e1=>
   if e1.name == name1 then
    some (.ok e1.value)
   else
    iW s1 name1 bQ (bW (x1 + 1))
  else
   Ak (wY 10) (fun e2=>some (.bad e2)) fun _=>
   some (.ok (aj.mk 0 false 0 ([]:Str) [] []))
def nD (s1:List aH) (name1:Str):Option (gB aZ aj):=
 iW s1 name1 BIG 0
def lN (fE:List aH→ak→Option (gB aZ aj)) (s1:List aH) (e1:ak):Option (gB aZ aj):=
 if e1.kind == 1 then
  some (.ok e1.value)
 else
  if e1.kind == 2 then
   Ak (nD s1 e1.name) (fun e2=>some (.bad e2)) fun x1=>
   some (.ok x1)
  else
   if e1.kind == 3 then
    none
   else
    if e1.kind == 4 then
     aB (idx e1.args 0) fun e3=>
     Ak (fE s1 e3) (fun e4=>some (.bad e4)) fun x2=>
     none
    else
     if e1.kind == 5 then
      none
     else
      if e1.kind == 6 then
       none
      else
       if e1.kind == 7 then
        none
       else
        if e1.kind == 8 then
         none
        else
         if e1.kind == 9 then
          none
         else
          none
def g_ :Nat→List aH→ak→Option (gB aZ aj)
 | 0,_,_=>none
 | k + 1,Gt,rF=>lN (g_ k) Gt rF
def rO (Gt:List aH) (rF:ak):Option (gB aZ aj):=g_ BIG Gt rF
def ow (s1:List aH) (e1:ak):Option (aj × Int):=
 Ak (rO s1 e1) (fun f1=>some ((aj.mk 0 false 0 ([]:Str) [] []),f1.code)) fun v1=>
 some (v1,0)
def mW (eO:aj→Option aj) (v1:aj):Nat→Int→aj→Option aj
 | 0,_,_=>none
 | bQ + 1,x1,bI=>
  if decide (x1 < (v1.dS.length:Int)) then
   aB (idx v1.dS x1) fun e1=>
   aB (eO e1) fun x2=>
   aB (app bI.dS [x2]) fun x3=>
   mW eO v1 bQ (bW (x1 + 1)) (aj.mk bI.kind bI.jW bI.ng bI.l7 x3 bI.keys)
  else
   aB (app bI.keys v1.keys) fun x4=>
   some (aj.mk bI.kind bI.jW bI.ng bI.l7 bI.dS x4)
def qY (eO:aj→Option aj) (v1:aj):Option aj:=
 mW eO v1 BIG 0 (aj.mk v1.kind v1.jW v1.ng v1.l7 [] [])
def lQ :Nat→aj→Option aj
 | 0,_=>none
 | k + 1,Gs=>qY (lQ k) Gs
def zM (Gs:aj):Option aj:=lQ BIG Gs
def wZ (e1:ak) (fZ:List aH):Option (aj × Int):=
 fG (sZ e1 fZ) fun s1 f1=>
 if f1 != 0 then
  some ((aj.mk 0 false 0 ([]:Str) [] []),f1)
 else
  fG (ow s1 e1) fun x1 f2=>
  aB (zM x1) fun x2=>
  some (x2,f2)
def uU (v1:aj):Option (Str × Int):=
 if (v1.kind == 4) || (v1.kind == 5) then
  some (([]:Str),9)
 else
  aB (kQ v1) fun e1=>
  if e1 != 0 then
   some (([]:Str),e1)
  else
   if v1.kind == 0 then
    some (([]:Str),0)
   else
    if v1.kind == 3 then
     some (v1.l7,0)
    else
     none
def nC (p1:aT) (fZ:List aH):Option (Str × Int):=
 if !p1.MS then
  some (p1.text,0)
 else
  fG (wZ p1.expr fZ) fun x1 lV=>
  if lV != 0 then
   some (([]:Str),lV)
  else
   uU x1
def jP (fZ:List aH) (ps1:List aT):Nat→Int→Str→Option (Str × Int)
 | 0,_,_=>none
 | bQ + 1,x2,b1=>
  if decide (x2 < (ps1.length:Int)) then
   aB (idx ps1 x2) fun e1=>
   fG (nC e1 fZ) fun t1 Iw=>
   if Iw != 0 then
    some (([]:Str),Iw)
   else
    aB (app b1 t1) fun b2=>
    jP fZ ps1 bQ (bW (x2 + 1)) b2
  else
   if decide (4096 < (b1.length:Int)) then
    some (([]:Str),3)
   else
    some (b1,0)
def pY (s1:Str) (fZ:List aH):Option (Str × Int):=
 qA (nO s1) fun ps1 x1 lV=>
 if lV != 0 then
  some (([]:Str),lV)
 else
  aB (wu fZ) fun uM=>
  if uM != 0 then
   some (([]:Str),uM)
  else
   jP fZ ps1 BIG 0 []
def lW (s1:Str) (fZ:List aH):Option (Str × Int):=
 fG (pY s1 fZ) fun bI e1=>
 if e1 != 0 then
  some (([]:Str),e1)
 else
  if bI == ([]:Str) then
   some (([]:Str),1)
  else
   if decide (512 < (bI.length:Int)) then
    some (([]:Str),3)
   else
    some (bI,0)
def lY (c1:aX) (su:List aH) (dB:List av):Option (Str × Int):=
 fG (jK c1 su dB) fun fZ e1=>
 if e1 != 0 then
  some (([]:Str),e1)
 else
  lW c1.key fZ
def nR :Option Bool:=
 fG (lY (aX.mk ([103,111,45,36,123,102,105,108,101,115,125]:Str) [] []) [] []) fun a1 e1=>
 fG (lY (aX.mk ([36,123,111,115,125,47,49]:Str) [] []) [(aH.mk ([111,115]:Str) (aj.mk 3 false 0 ([108,105,110,117,120]:Str) [] []))] []) fun b1 f1=>
 fG (lY (aX.mk ([36,123,97,114,99,104,125]:Str) [] []) [] []) fun x1 g1=>
 aB (mG ([102,105,108,101,115]:Str) []) fun x2=>
 aB (pE x2) fun x3=>
 aB (app ([103,111,45]:Str) x3) fun x4=>
 some (((((a1 == x4) && (e1 == 0)) && (b1 == ([108,105,110,117,120,47,49]:Str))) && (f1 == 0)) && (g1 != 0))
def dH (dB:List av) (l1:List Str):Nat→List av→Int→Option Bool
 | 0,_,_=>none
 | bQ + 1,some1,i1=>
  if decide (i1 < (dB.length:Int)) then
   aB (idx dB i1) fun e1=>
   aB (j6 l1 e1.path) fun x4=>
   if x4 then
    aB (idx dB i1) fun e2=>
    aB (app some1 [e2]) fun Ho=>
    dH dB l1 bQ Ho (bW (i1 + 1))
   else
    dH dB l1 bQ some1 (bW (i1 + 1))
  else
   aB (gy dB l1) fun d1=>
   aB (gy some1 l1) fun x5=>
   aB (
     if (d1.toNat:Int) == (x5.toNat:Int) then
      aB (gy some1 ([([42,42]:Str)]:List Str)) fun x6=>
      some ((d1.toNat:Int) == (x6.toNat:Int))
     else
      some false) fun b2=>
   if b2 then
    nR
   else
    some false
def jr (dB:List av) (l1:List Str):Option Bool:=
 aB (tZ dB) fun x1=>
 aB (
   if !x1 then
    some true
   else
    aB (nN l1) fun x2=>
    some (!x2)) fun b1=>
 if b1 then
  nR
 else
  dH dB l1 BIG [] 0
end Go.Ft
