/- Proved here: nothing: the functional texts of the functions that the statements reach, as our program wrote them. -/
import Derived.Test.YtggpjlegajicnaaGreatDoorCzWords
set_option linter.unusedVariables false
set_option linter.unusedSimpArgs false
set_option linter.unusedSectionVars false
namespace Go.Ft
open Go
structure ah where
 kind:Int
 dO:Bool
 dI:Int
 bR:Str
 aO:List ah
 keys:List Str
structure aj where
 kind:Int
 name:Str
 value:ah
 args:List aj
 keys:List Str
structure aA where
 name:Str
 value:ah
structure bq where
 kind:Int
 text:Str
 at_:Int
 deriving DecidableEq
structure av where
 ts:List bq
 at_:Int
 deriving DecidableEq
structure aC where
 at_:Int
 code:Int
 deriving DecidableEq
structure bL where
 cancelled:Bool
 failure:Bool
 skipped:Bool
 success:Bool
 deriving DecidableEq
structure aM where
 code:Int
 deriving DecidableEq
structure j_ where
 half:List (BitVec 64)
 neg:Bool
 deriving DecidableEq
structure ak where
 kind:Int
 elem:List ak
structure aH where
 name:Str
 rY:ak
structure agm where
 x:Int
 y:Int
 signed:Bool
 code:UInt8
 deriving DecidableEq
structure H6 where
 x:Int
 y:Int
 signed:Bool
 code:UInt8
 deriving DecidableEq
structure agl where
 msg:Str
 addr:BitVec 64
 deriving DecidableEq
structure zw where
 msg:Str
 addr:BitVec 64
 deriving DecidableEq
structure ae3 where
 kind:Int
 dO:Bool
 dI:Int
 bR:Str
 aO:List ah
 keys:List Str
structure akR where
 kind:Int
 name:Str
 value:ah
 args:List aj
 keys:List Str
structure akQ where
 name:Str
 value:ah
structure akP where
 kind:Int
 elem:List ak
structure akO where
 name:Str
 rY:ak
structure akN where
 cancelled:Bool
 failure:Bool
 skipped:Bool
 success:Bool
 deriving DecidableEq
structure akM where
 kind:Int
 text:Str
 at_:Int
 deriving DecidableEq
structure akL where
 code:Int
 deriving DecidableEq
structure akK where
 ts:List bq
 at_:Int
 deriving DecidableEq
structure akJ where
 at_:Int
 code:Int
 deriving DecidableEq
structure aro where
 half:List (BitVec 64)
 neg:Bool
 deriving DecidableEq
structure asg where
 neg:Bool
 hi:BitVec 64
 lo:BitVec 64
 deriving DecidableEq
structure d9 where
 neg:Bool
 hi:BitVec 64
 lo:BitVec 64
 deriving DecidableEq
structure asf where
 func:Str
 num:Str
 err:Option Nat
structure ah9 where
 func:Str
 num:Str
 err:Option Nat
structure akG where
 s:Str
 deriving DecidableEq
structure Jd where
 s:Str
 deriving DecidableEq
structure akF where
 lo:UInt8
 hi:UInt8
 deriving DecidableEq
structure LJ where
 lo:UInt8
 hi:UInt8
 deriving DecidableEq

mutual
def ah.bulk :ah→Nat
 | ⟨a0,a1,a2,a3,a4,a5⟩=>1 + 1 + 1 + (a3.length + 1) + (ah.nZ a4 + 1) + ((List.map (fun z:Str=>(z.length + 1)) a5).sum + 1) + 1
def ah.nZ :List ah→Nat
 | []=>0
 | x :: xs=>ah.bulk x + ah.nZ xs
end
theorem ah.kE :∀ l:List ah,ah.nZ l=(l.map ah.bulk).sum
 | []=>rfl
 | x :: l=>by simp only [ah.nZ,List.map_cons,List.sum_cons,ah.kE l]
theorem ah.jA (x:ah):ah.bulk x=1 + 1 + 1 + (x.bR.length + 1) + (ah.nZ x.aO + 1) + ((List.map (fun z:Str=>(z.length + 1)) x.keys).sum + 1) + 1:=by cases x; rfl
mutual
def aj.bulk :aj→Nat
 | ⟨a0,a1,a2,a3,a4⟩=>1 + (a1.length + 1) + (ah.bulk a2) + (aj.nZ a3 + 1) + ((List.map (fun z:Str=>(z.length + 1)) a4).sum + 1) + 1
def aj.nZ :List aj→Nat
 | []=>0
 | x :: xs=>aj.bulk x + aj.nZ xs
end
theorem aj.kE :∀ l:List aj,aj.nZ l=(l.map aj.bulk).sum
 | []=>rfl
 | x :: l=>by simp only [aj.nZ,List.map_cons,List.sum_cons,aj.kE l]
theorem aj.jA (x:aj):aj.bulk x=1 + (x.name.length + 1) + (ah.bulk x.value) + (aj.nZ x.args + 1) + ((List.map (fun z:Str=>(z.length + 1)) x.keys).sum + 1) + 1:=by cases x; rfl
def aA.bulk (x:aA):Nat:=(x.name.length + 1) + (ah.bulk x.value) + 1
def bq.bulk (x:bq):Nat:=1 + (x.text.length + 1) + 1 + 1
def av.bulk (x:av):Nat:=((List.map (fun z:bq=>(bq.bulk z)) x.ts).sum + 1) + 1 + 1
def aC.bulk (x:aC):Nat:=1 + 1 + 1
def bL.bulk (x:bL):Nat:=1 + 1 + 1 + 1 + 1
def aM.bulk (x:aM):Nat:=1 + 1
mutual
def ak.bulk :ak→Nat
 | ⟨a0,a1⟩=>1 + (ak.nZ a1 + 1) + 1
def ak.nZ :List ak→Nat
 | []=>0
 | x :: xs=>ak.bulk x + ak.nZ xs
end
theorem ak.kE :∀ l:List ak,ak.nZ l=(l.map ak.bulk).sum
 | []=>rfl
 | x :: l=>by simp only [ak.nZ,List.map_cons,List.sum_cons,ak.kE l]
theorem ak.jA (x:ak):ak.bulk x=1 + (ak.nZ x.elem + 1) + 1:=by cases x; rfl
def aH.bulk (x:aH):Nat:=(x.name.length + 1) + (ak.bulk x.rY) + 1
def agm.bulk (x:agm):Nat:=1 + 1 + 1 + 1 + 1
def H6.bulk (x:H6):Nat:=1 + 1 + 1 + 1 + 1
def agl.bulk (x:agl):Nat:=(x.msg.length + 1) + 1 + 1
def zw.bulk (x:zw):Nat:=(x.msg.length + 1) + 1 + 1
def ae3.bulk (x:ae3):Nat:=1 + 1 + 1 + (x.bR.length + 1) + (ah.nZ x.aO + 1) + ((List.map (fun z:Str=>(z.length + 1)) x.keys).sum + 1) + 1
def akR.bulk (x:akR):Nat:=1 + (x.name.length + 1) + (ah.bulk x.value) + (aj.nZ x.args + 1) + ((List.map (fun z:Str=>(z.length + 1)) x.keys).sum + 1) + 1
def akQ.bulk (x:akQ):Nat:=(x.name.length + 1) + (ah.bulk x.value) + 1
def akP.bulk (x:akP):Nat:=1 + (ak.nZ x.elem + 1) + 1
def akO.bulk (x:akO):Nat:=(x.name.length + 1) + (ak.bulk x.rY) + 1
def akN.bulk (x:akN):Nat:=1 + 1 + 1 + 1 + 1
def akM.bulk (x:akM):Nat:=1 + (x.text.length + 1) + 1 + 1
def akL.bulk (x:akL):Nat:=1 + 1
def akK.bulk (x:akK):Nat:=((List.map (fun z:bq=>(bq.bulk z)) x.ts).sum + 1) + 1 + 1
def akJ.bulk (x:akJ):Nat:=1 + 1 + 1
def asg.bulk (x:asg):Nat:=1 + 1 + 1 + 1
def d9.bulk (x:d9):Nat:=1 + 1 + 1 + 1
def akG.bulk (x:akG):Nat:=(x.s.length + 1) + 1
def Jd.bulk (x:Jd):Nat:=(x.s.length + 1) + 1
def akF.bulk (x:akF):Nat:=1 + 1 + 1
def LJ.bulk (x:LJ):Nat:=1 + 1 + 1

def Bw (o8:aj→Option Int) (e1:aj):Nat→Int→Int→Option Int
 | 0,_,_=>none
 | bT + 1,n1,i1=>
  if decide (i1 < (e1.args.length:Int)) then
   au (idx e1.args i1) fun e2=>
   au (o8 e2) fun x1=>
   Bw o8 e1 bT (bZ (n1 + x1)) (bZ (i1 + 1))
  else
   some n1

def Iw (o8:aj→Option Int) (e1:aj):Option Int:=
 Bw o8 e1 BIG 1 0

def sQ :Nat→aj→Option Int
 | 0,_=>none
 | k + 1,iY=>Iw (sQ k) iY

def JJ (iY:aj):Option Int:=sQ BIG iY

def yX (e1:aj) (n1:Int):Option Bool:=
 au (JJ e1) fun x1=>
 some ((decide (x1≤5000)) && (decide (n1≤300)))

def jf (b1:Bool):Option ah:=
 some (ah.mk 1 b1 0 ([]:Str) [] [])

def Aw (bC:List Int) (mR:Int):Nat→Int→Option Bool
 | 0,_=>none
 | bT + 1,i1=>
  if decide (i1 < (bC.length:Int)) then
   au (idx bC i1) fun e1=>
   if e1 == mR then
    some true
   else
    Aw bC mR bT (bZ (i1 + 1))
  else
   some false

def JB (bC:List Int) (mR:Int):Option Bool:=
 Aw bC mR BIG 0

def CW (bC:List Int) (mR:Int):Nat→Int→Option Bool
 | 0,_=>none
 | bT + 1,i1=>
  if decide (i1 < (bC.length:Int)) then
   au (idx bC i1) fun e1=>
   if e1 != mR then
    some false
   else
    CW bC mR bT (bZ (i1 + 1))
  else
   some true

def UK (bC:List Int) (mR:Int):Option Bool:=
 CW bC mR BIG 0

def Kr (bC:List Int) (bG:List aA):Option (List aA):=
 au (jf true) fun x1=>
 au (JB bC 4) fun x2=>
 au (jf x2) fun x3=>
 au (app [(aA.mk ([97,108,119,97,121,115]:Str) x1)] [(aA.mk ([99,97,110,99,101,108,108,101,100]:Str) x3)]) fun l1=>
 au (JB bC 2) fun x4=>
 au (jf x4) fun x5=>
 au (app l1 [(aA.mk ([102,97,105,108,117,114,101]:Str) x5)]) fun l2=>
 au (JB bC 3) fun x6=>
 au (jf x6) fun x7=>
 au (app l2 [(aA.mk ([115,107,105,112,112,101,100]:Str) x7)]) fun l3=>
 au (UK bC 1) fun x8=>
 au (jf x8) fun x9=>
 au (app l3 [(aA.mk ([115,117,99,99,101,115,115]:Str) x9)]) fun l4=>
 app l4 bG

def Ku (c1:UInt8):Option Bool:=
 some ((((decide (97≤(c1.toNat:Int))) && (decide ((c1.toNat:Int)≤122))) || ((decide (65≤(c1.toNat:Int))) && (decide ((c1.toNat:Int)≤90)))) || ((c1.toNat:Int) == 95))

def Db (c1:UInt8):Option Bool:=
 some ((decide (48≤(c1.toNat:Int))) && (decide ((c1.toNat:Int)≤57)))

def El (s1:Str):Nat→Int→Option Bool
 | 0,_=>none
 | bT + 1,i1=>
  if decide (i1 < (s1.length:Int)) then
   au (idx s1 i1) fun x1=>
   au (Ku x1) fun x2=>
   au (
     if !x2 then
      if i1 == 0 then
       some true
      else
       au (idx s1 i1) fun x3=>
       au (Db x3) fun x4=>
       some (!x4)
     else
      some false) fun b1=>
   if b1 then
    some false
   else
    El s1 bT (bZ (i1 + 1))
  else
   some ((decide (1≤(s1.length:Int))) && (decide ((s1.length:Int)≤64)))

def ML (s1:Str):Option Bool:=
 El s1 BIG 0

def yK (s1:Str):Option Bool:=
 au (ML s1) fun x1=>
 some (((x1 && (!(s1 == ([116,114,117,101]:Str)))) && (!(s1 == ([102,97,108,115,101]:Str)))) && (!(s1 == ([110,117,108,108]:Str))))

def JL (v1:ah):Option Bool:=
 if ((v1.dO && (v1.kind != 1)) || ((v1.dI != 0) && (v1.kind != 2))) || ((!(v1.bR == ([]:Str))) && (v1.kind != 3)) then
  some false
 else
  if ((decide (0 < (v1.aO.length:Int))) && (v1.kind != 4)) && (v1.kind != 5) then
   some false
  else
   some (((v1.keys.length:Int) == 0) || (v1.kind == 5))

def Ob (s1:Str):Option Bool:=
 some ((decide (1≤(s1.length:Int))) && (decide ((s1.length:Int)≤64)))

def yR (OP:Bool) (Q0:Bool):Option Int:=
 if OP then
  some (-1)
 else
  if Q0 then
   some 1
  else
   some 0

def F8 (c1:UInt8):Option Bool:=
 some ((decide (48≤(c1.toNat:Int))) && (decide ((c1.toNat:Int)≤57)))

def GA (s1:Str):Nat→Int→Option Int
 | 0,_=>none
 | bT + 1,at2=>
  au (
    if decide (at2 < (s1.length:Int)) then
     au (idx s1 at2) fun x1=>
     F8 x1
    else
     some false) fun b1=>
  if b1 then
   GA s1 bT (bZ (at2 + 1))
  else
   some at2

def QK (s1:Str) (mE:Int):Option Int:=
 GA s1 BIG mE

def yQ (s1:Str):Nat→Int→Option Str
 | 0,_=>none
 | bT + 1,i1=>
  au (
    if decide (i1 < (s1.length:Int)) then
     au (idx s1 i1) fun x1=>
     some ((x1.toNat:Int) == 48)
    else
     some false) fun b1=>
  if b1 then
   yQ s1 bT (bZ (i1 + 1))
  else
   sl s1 i1 (s1.length:Int)

def F7 (s1:Str):Option Str:=
 yQ s1 BIG 0

def MS (a1:Str) (b1:Str):Option Int:=
 au (F7 a1) fun x1=>
 au (F7 b1) fun y1=>
 if (x1.length:Int) != (y1.length:Int) then
  yR (decide ((x1.length:Int) < (y1.length:Int))) (decide ((y1.length:Int) < (x1.length:Int)))
 else
  if !(x1 == y1) then
   yR (Go.Op.bytesLess x1 y1) (!(Go.Op.bytesLess x1 y1 || x1 == y1))
  else
   yR (decide ((a1.length:Int) < (b1.length:Int))) (decide ((b1.length:Int) < (a1.length:Int)))

def pR (a1:Str) (b1:Str):Nat→Int→Int→Option Int
 | 0,_,_=>none
 | bT + 1,i1,rV=>
  if (decide (i1 < (a1.length:Int))) && (decide (rV < (b1.length:Int))) then
   au (idx a1 i1) fun x1=>
   au (idx b1 rV) fun x2=>
   au (idx a1 i1) fun x3=>
   au (idx b1 rV) fun x4=>
   au (yR (decide ((x1.toNat:Int) < (x2.toNat:Int))) (decide ((x4.toNat:Int) < (x3.toNat:Int)))) fun c1=>
   au (idx a1 i1) fun x5=>
   au (F8 x5) fun x6=>
   au (
     if x6 then
      au (idx b1 rV) fun x7=>
      F8 x7
     else
      some false) fun b2=>
   if b2 then
    au (QK a1 i1) fun m1=>
    au (QK b1 rV) fun n1=>
    au (sl a1 i1 m1) fun x9=>
    au (sl b1 rV n1) fun wS=>
    au (MS x9 wS) fun c2=>
    if c2 != 0 then
     some c2
    else
     pR a1 b1 bT m1 n1
   else
    if c1 != 0 then
     some c1
    else
     pR a1 b1 bT (bZ (i1 + 1)) (bZ (rV + 1))
  else
   yR (decide (rV < (b1.length:Int))) (decide (i1 < (a1.length:Int)))

def qN (a1:Str) (b1:Str):Option Int:=
 pR a1 b1 BIG 0 0

def qW (v1:ah):Nat→Int→Option Bool
 | 0,_=>none
 | bT + 1,i1=>
  if decide (i1 < (v1.keys.length:Int)) then
   au (idx v1.keys i1) fun e1=>
   au (Ob e1) fun x1=>
   au (
     if !x1 then
      some true
     else
      if decide (0 < i1) then
       au (idx v1.keys (bZ (i1 - 1))) fun e2=>
       au (idx v1.keys i1) fun e3=>
       au (qN e2 e3) fun x2=>
       some (decide (0≤x2))
      else
       some false) fun b1=>
   if b1 then
    some false
   else
    qW v1 bT (bZ (i1 + 1))
  else
   some ((v1.keys.length:Int) == (v1.aO.length:Int))

def zN (v1:ah):Option Bool:=
 qW v1 BIG 0

def BF (o9:ah→Int→Option Int) (v1:ah) (bV:Int):Nat→Int→Option Int
 | 0,_=>none
 | bT + 1,i1=>
  if decide (i1 < (v1.aO.length:Int)) then
   au (idx v1.aO i1) fun e1=>
   au (o9 e1 (bZ (bV + 1))) fun e2=>
   if e2 != 0 then
    some e2
   else
    BF o9 v1 bV bT (bZ (i1 + 1))
  else
   some 0

def IB (o9:ah→Int→Option Int) (v1:ah) (bV:Int):Option Int:=
 if decide (16 < bV) then
  some 13
 else
  au (
    if (decide (v1.kind < 0)) || (decide (5 < v1.kind)) then
     some true
    else
     au (JL v1) fun x1=>
     some (!x1)) fun b1=>
  if b1 then
   some 1
  else
   if (decide (v1.dI < (-9007199254740992))) || (decide (9007199254740992 < v1.dI)) then
    some 2
   else
    if ((decide (4096 < (v1.bR.length:Int))) || (decide (1024 < (v1.aO.length:Int)))) || (decide (1024 < (v1.keys.length:Int))) then
     some 3
    else
     au (
       if v1.kind == 5 then
        au (zN v1) fun x2=>
        some (!x2)
       else
        some false) fun b2=>
     if b2 then
      some 1
     else
      if ((decide (4≤v1.kind)) && ((v1.aO.length:Int) == 0)) && (bV == 16) then
       some 13
      else
       BF o9 v1 bV BIG 0

def sS :Nat→ah→Int→Option Int
 | 0,_,_=>none
 | k + 1,qg,gu=>IB (sS k) qg gu

def R6 (qg:ah) (gu:Int):Option Int:=sS BIG qg gu

def yO (v1:ah):Option Int:=
 R6 v1 1

def C8 (cB:List aA) (i1:Int) (OT:Int→Option Int):Nat→Int→Option Int
 | 0,_=>none
 | KQ + 1,rV=>
  if decide (rV < i1) then
   au (idx cB rV) fun e4=>
   au (idx cB i1) fun e5=>
   if e4.name == e5.name then
    some 7
   else
    C8 cB i1 OT KQ (bZ (rV + 1))
  else
   OT (bZ (i1 + 1))

def xk (cB:List aA):Nat→Int→Option Int
 | 0,_=>none
 | bT + 1,i1=>
  if decide (i1 < (cB.length:Int)) then
   au (idx cB i1) fun e1=>
   au (yK e1.name) fun x1=>
   if !x1 then
    some 1
   else
    au (idx cB i1) fun e2=>
    au (yO e2.value) fun e3=>
    if e3 != 0 then
     some e3
    else
     C8 cB i1 (xk cB bT) BIG 0
  else
   some 0

def N_ (cB:List aA):Option Int:=
 if decide (1024 < (cB.length:Int)) then
  some 3
 else
  xk cB BIG 0

def zP (c1:UInt8):Option Bool:=
 some ((((decide (97≤(c1.toNat:Int))) && (decide ((c1.toNat:Int)≤122))) || ((decide (65≤(c1.toNat:Int))) && (decide ((c1.toNat:Int)≤90)))) || ((c1.toNat:Int) == 95))

def BL (c1:UInt8):Option Bool:=
 some ((decide (48≤(c1.toNat:Int))) && (decide ((c1.toNat:Int)≤57)))

def uJ (s1:Str):Nat→Int→Option Bool
 | 0,_=>none
 | bT + 1,i1=>
  if decide (i1 < (s1.length:Int)) then
   au (idx s1 i1) fun x3=>
   au (zP x3) fun x4=>
   au (
     if !x4 then
      au (idx s1 i1) fun x5=>
      au (BL x5) fun x6=>
      some (!x6)
     else
      some false) fun b2=>
   if b2 then
    some false
   else
    uJ s1 bT (bZ (i1 + 1))
  else
   some true

def AQ (s1:Str):Option Bool:=
 au (
   if (decide ((s1.length:Int) < 1)) || (decide (64 < (s1.length:Int))) then
    some true
   else
    au (idx s1 0) fun x1=>
    au (zP x1) fun x2=>
    some (!x2)) fun b1=>
 if b1 then
  some false
 else
  uJ s1 BIG 0

def strconv_Itoa (n1:Int):Option Str:=
 if -9223372036854775808≤n1∧n1≤9223372036854775807 then some (xL n1) else none

def strconv_Atoi (s1:Str):Option (Int × Option Nat):=
 if s1.length≤281474976710656 then some ((CB s1).2,if (CB s1).1=0 then none else some 279) else none

def AL (s1:Str):Option Bool:=
 some (((s1 == ([116,114,117,101]:Str)) || (s1 == ([102,97,108,115,101]:Str))) || (s1 == ([110,117,108,108]:Str)))

def iZ (op1:Str):Option Int:=
 if op1 == ([124,124]:Str) then
  some 2
 else
  if op1 == ([38,38]:Str) then
   some 3
  else
   if op1 == ([61,61]:Str) then
    some 4
   else
    if op1 == ([33,61]:Str) then
     some 4
    else
     if op1 == ([60]:Str) then
      some 4
     else
      if op1 == ([60,61]:Str) then
       some 4
      else
       if op1 == ([62]:Str) then
        some 4
       else
        if op1 == ([62,61]:Str) then
         some 4
        else
         if op1 == ([43]:Str) then
          some 5
         else
          if op1 == ([45]:Str) then
           some 5
          else
           if op1 == ([42]:Str) then
            some 6
           else
            if op1 == ([47]:Str) then
             some 6
            else
             if op1 == ([37]:Str) then
              some 6
             else
              some 0

def vS (lS:aj→Option Int) (e1:aj):Nat→Int→Int→Option Int
 | 0,_,_=>none
 | bT + 1,n1,x1=>
  if decide (x1 < (e1.args.length:Int)) then
   au (idx e1.args x1) fun e2=>
   au (lS e2) fun x2=>
   vS lS e1 bT (bZ (n1 + x2)) (bZ (x1 + 1))
  else
   some n1

def BO (lS:aj→Option Int) (e1:aj):Option Int:=
 vS lS e1 BIG 1 0

def nM :Nat→aj→Option Int
 | 0,_=>none
 | k + 1,iY=>BO (nM k) iY

def Fu (iY:aj):Option Int:=nM BIG iY

def IG (v1:ah):Option Bool:=
 some ((((((v1.kind == 0) && (!v1.dO)) && (v1.dI == 0)) && (v1.bR == ([]:Str))) && ((v1.aO.length:Int) == 0)) && ((v1.keys.length:Int) == 0))

def vD (s1:Str):Option Bool:=
 au (AQ s1) fun x1=>
 if x1 then
  au (AL s1) fun x2=>
  some (!x2)
 else
  some false

def BJ (e1:aj):Option Bool:=
 if e1.kind == 2 then
  vD e1.name
 else
  if e1.kind == 3 then
   vD e1.name
  else
   if e1.kind == 5 then
    vD e1.name
   else
    if e1.kind == 6 then
     some ((e1.name == ([33]:Str)) || (e1.name == ([45]:Str)))
    else
     if e1.kind == 7 then
      au (iZ e1.name) fun x4=>
      some (decide (0 < x4))
     else
      some (e1.name == ([]:Str))

def BM (e1:aj):Option Bool:=
 if e1.kind == 1 then
  some ((e1.args.length:Int) == 0)
 else
  if e1.kind == 2 then
   some ((e1.args.length:Int) == 0)
  else
   if e1.kind == 3 then
    some ((e1.args.length:Int) == 1)
   else
    if e1.kind == 6 then
     some ((e1.args.length:Int) == 1)
    else
     if e1.kind == 4 then
      some ((e1.args.length:Int) == 2)
     else
      if e1.kind == 7 then
       some ((e1.args.length:Int) == 2)
      else
       if e1.kind == 8 then
        some ((e1.args.length:Int) == 3)
       else
        some true

def iO (s1:List Str) (f1:Str→Option Bool):Nat→Int→Option Int
 | 0,_=>none
 | bT + 1,i1=>
  if decide (i1 < (s1.length:Int)) then
   au (idx s1 i1) fun e1=>
   au (f1 e1) fun x1=>
   if x1 then
    some i1
   else
    iO s1 f1 bT (bZ (i1 + 1))
  else
   some (-1)

def kN (s1:List Str) (f1:Str→Option Bool):Option Int:=
 iO s1 f1 BIG 0

def iQ (s1:List Str) (f1:Str→Option Bool):Option Bool:=
 au (kN s1 f1) fun x1=>
 some (decide (0≤x1))

def mM (rV:Str):Option Bool:=
 some ((decide ((rV.length:Int) < 1)) || (decide (64 < (rV.length:Int))))

def BK (e1:aj):Option Bool:=
 if e1.kind != 10 then
  some ((e1.keys.length:Int) == 0)
 else
  if (e1.keys.length:Int) == (e1.args.length:Int) then
   au (iQ e1.keys mM) fun x1=>
   some (!x1)
  else
   some false

def nA {β:Type} (go:β→ah→Int→Option (Bool × β)) (v1:ah) (bV:Int):Nat→β→Int→Option (Bool × β)
 | 0,_,_=>none
 | bT + 1,s1,i1=>
  if decide (i1 < (v1.aO.length:Int)) then
   au (idx v1.aO i1) fun x1=>
   fM (go s1 x1 (bZ (bV + 1))) fun b1 s2=>
   if !b1 then
    some (false,s2)
   else
    nA go v1 bV bT s2 (bZ (i1 + 1))
  else
   some (true,s1)

def yC {β:Type} (go:β→ah→Int→Option (Bool × β)) (y:β→Int→ah→Option (Bool × β)) (s1:β) (v1:ah) (bV:Int):Option (Bool × β):=
 fM (y s1 bV v1) fun b1 s2=>
 if !b1 then
  some (false,s2)
 else
  nA go v1 bV BIG s2 0

def iJ {β:Type} (y:β→Int→ah→Option (Bool × β)):Nat→β→ah→Int→Option (Bool × β)
 | 0,_,_,_=>none
 | k + 1,s1,v1,bV=>yC (iJ y k) y s1 v1 bV

def Gm {β:Type} (y:β→Int→ah→Option (Bool × β)) (s1:β) (v1:ah) (bV:Int):Option (Bool × β):=iJ y BIG s1 v1 bV

def Fa (v1:ah):Option Bool:=
 some ((((((v1.kind == 1) || (!v1.dO)) && ((v1.kind == 2) || (v1.dI == 0))) && ((v1.kind == 3) || (v1.bR == ([]:Str)))) && (((v1.kind == 4) || (v1.kind == 5)) || ((v1.aO.length:Int) == 0))) && ((v1.kind == 5) || ((v1.keys.length:Int) == 0)))

def IJ (c1:UInt8):Option Bool:=
 some ((decide (48≤(c1.toNat:Int))) && (decide ((c1.toNat:Int)≤57)))

def Cb (s1:Str):Nat→Int→Option Int
 | 0,_=>none
 | bT + 1,n1=>
  au (
    if decide (n1 < (s1.length:Int)) then
     au (idx s1 n1) fun x1=>
     IJ x1
    else
     some false) fun b1=>
  if b1 then
   Cb s1 bT (bZ (n1 + 1))
  else
   some n1

def Gc (s1:Str):Option Int:=
 Cb s1 BIG 0

def jL (c1:UInt8):Nat→Str→Option Str
 | 0,_=>none
 | bT + 1,s2=>
  au (
    if decide (0 < (s2.length:Int)) then
     au (idx s2 0) fun x1=>
     some ((x1.toNat:Int) == (c1.toNat:Int))
    else
     some false) fun b1=>
  if b1 then
   au (sl s2 1 (s2.length:Int)) fun s3=>
   jL c1 bT s3
  else
   some s2

def strings_trimLeftByte (s1:Str) (c1:UInt8):Option Str:=
 jL c1 BIG s1

def qV (s1:Str) (IY:Str):Option Str:=
 if (s1 == ([]:Str)) || (IY == ([]:Str)) then
  some s1
 else
  au (
    if (IY.length:Int) == 1 then
     au (idx IY 0) fun x1=>
     some (decide ((x1.toNat:Int) < 128))
    else
     some false) fun b1=>
  if b1 then
   au (idx IY 0) fun x2=>
   strings_trimLeftByte s1 x2
  else
   none

def cmp_isNaN_int (x1:Int):Option Bool:=
 some (x1 != x1)

def cmp_Compare_int (x1:Int) (y1:Int):Option Int:=
 au (cmp_isNaN_int x1) fun Tf=>
 au (cmp_isNaN_int y1) fun Md=>
 if Tf then
  if Md then
   some 0
  else
   some (-1)
 else
  if Md then
   some 1
  else
   if decide (x1 < y1) then
    some (-1)
   else
    if decide (y1 < x1) then
     some 1
    else
     some 0

def cmp_isNaN_string (x1:Str):Option Bool:=
 some (!(x1 == x1))

def oN (x1:Str) (y1:Str):Option Int:=
 au (cmp_isNaN_string x1) fun Tf=>
 au (cmp_isNaN_string y1) fun Md=>
 if Tf then
  if Md then
   some 0
  else
   some (-1)
 else
  if Md then
   some 1
  else
   if Go.Op.bytesLess x1 y1 then
    some (-1)
   else
    if !(Go.Op.bytesLess x1 y1 || x1 == y1) then
     some 1
    else
     some 0

def zY (Lh:List Int):Nat→Int→Option Int
 | 0,_=>none
 | bT + 1,x1=>
  if decide (x1 < (Lh.length:Int)) then
   au (idx Lh x1) fun agS=>
   if agS != 0 then
    some agS
   else
    zY Lh bT (bZ (x1 + 1))
  else
   some 0

def Ht (Lh:List Int):Option Int:=
 zY Lh BIG 0

def zV (a1:Str) (b1:Str):Option Int:=
 au (qV a1 ([48]:Str)) fun x1=>
 au (qV b1 ([48]:Str)) fun y1=>
 au (cmp_Compare_int (x1.length:Int) (y1.length:Int)) fun x2=>
 au (oN x1 y1) fun x3=>
 au (cmp_Compare_int (a1.length:Int) (b1.length:Int)) fun x4=>
 Ht ([x2,x3,x4]:List Int)

def xV (x1:UInt8):Option Bool:=
 some ((x1.toNat:Int) != (x1.toNat:Int))

def uQ (x1:UInt8) (y1:UInt8):Option Int:=
 au (xV x1) fun Tf=>
 au (xV y1) fun Md=>
 if Tf then
  if Md then
   some 0
  else
   some (-1)
 else
  if Md then
   some 1
  else
   if decide ((x1.toNat:Int) < (y1.toNat:Int)) then
    some (-1)
   else
    if decide ((y1.toNat:Int) < (x1.toNat:Int)) then
     some 1
    else
     some 0

def l7 :Nat→Str→Str→Option Int
 | 0,_,_=>none
 | bT + 1,a2,b2=>
  if (!(a2 == ([]:Str))) && (!(b2 == ([]:Str))) then
   au (Gc a2) fun n1=>
   au (Gc b2) fun m1=>
   if (decide (0 < n1)) && (decide (0 < m1)) then
    au (sl a2 0 n1) fun x1=>
    au (sl b2 0 m1) fun x2=>
    au (zV x1 x2) fun c1=>
    if c1 != 0 then
     some c1
    else
     au (sl a2 n1 (a2.length:Int)) fun a3=>
     au (sl b2 m1 (b2.length:Int)) fun b3=>
     l7 bT a3 b3
   else
    au (idx a2 0) fun x3=>
    au (idx b2 0) fun x4=>
    if (x3.toNat:Int) != (x4.toNat:Int) then
     au (idx a2 0) fun x5=>
     au (idx b2 0) fun x6=>
     uQ x5 x6
    else
     au (sl a2 1 (a2.length:Int)) fun a4=>
     au (sl b2 1 (b2.length:Int)) fun b4=>
     l7 bT a4 b4
  else
   cmp_Compare_int (a2.length:Int) (b2.length:Int)

def kI (a1:Str) (b1:Str):Option Int:=
 l7 BIG a1 b1

def uG (v1:ah):Nat→Int→Option Bool
 | 0,_=>none
 | bT + 1,i1=>
  if decide (i1 < (v1.keys.length:Int)) then
   au (idx v1.keys i1) fun rV=>
   au (
     if (decide ((rV.length:Int) < 1)) || (decide (64 < (rV.length:Int))) then
      some true
     else
      if decide (0 < i1) then
       au (idx v1.keys (bZ (i1 - 1))) fun e1=>
       au (kI e1 rV) fun x1=>
       some (decide (0≤x1))
      else
       some false) fun b1=>
   if b1 then
    some false
   else
    uG v1 bT (bZ (i1 + 1))
  else
   some true

def D9 (v1:ah):Option Bool:=
 if (v1.keys.length:Int) != (v1.aO.length:Int) then
  some false
 else
  uG v1 BIG 0

def Gn (v1:ah) (bV:Int):Option Int:=
 if decide (16 < bV) then
  some 13
 else
  au (
    if (decide (v1.kind < 0)) || (decide (5 < v1.kind)) then
     some true
    else
     au (Fa v1) fun x1=>
     some (!x1)) fun b1=>
  if b1 then
   some 1
  else
   if (decide (v1.dI < (-9007199254740992))) || (decide (9007199254740992 < v1.dI)) then
    some 2
   else
    if ((decide (4096 < (v1.bR.length:Int))) || (decide (1024 < (v1.aO.length:Int)))) || (decide (1024 < (v1.keys.length:Int))) then
     some 3
    else
     au (
       if v1.kind == 5 then
        au (D9 v1) fun x2=>
        some (!x2)
       else
        some false) fun b2=>
     if b2 then
      some 1
     else
      if (((v1.kind == 4) || (v1.kind == 5)) && ((v1.aO.length:Int) == 0)) && (bV == 16) then
       some 13
      else
       some 0

def oU (s1:Option Int) (bV:Int) (x1:ah):Option (Bool × Option Int):=
 match s1 with
 | some _=>none
 | none=>
  au (Gn x1 bV) fun e1=>
  if !(e1 == 0) then
   some (false,some e1)
  else
   some (true,none)

def mY (v1:ah):Option Int:=
 fM (Gm oU none v1 1) fun _ s1=>
 some (s1.getD 0)

def rG (l1:List Str):Nat→Int→List (Str × Int)→Option Bool
 | 0,_,_=>none
 | bT + 1,x1,y1=>
  if decide (x1 < (l1.length:Int)) then
   au (idx l1 x1) fun s1=>
   if decide (1 < (qp (uX y1 s1 (bZ ((qp y1 s1) + 1))) s1)) then
    some true
   else
    rG l1 bT (bZ (x1 + 1)) (uX y1 s1 (bZ ((qp y1 s1) + 1)))
  else
   some false

def vR (l1:List Str):Option Bool:=
 rG l1 BIG 0 []

def Ep (e1:aj) (bV:Int):Option Int:=
 if decide (16 < bV) then
  some 13
 else
  au (
    if (decide (e1.kind < 1)) || (decide (10 < e1.kind)) then
     some true
    else
     if e1.kind != 1 then
      au (IG e1.value) fun x1=>
      some (!x1)
     else
      some false) fun b1=>
  au (
    if b1 then
     some true
    else
     au (BJ e1) fun x2=>
     some (!x2)) fun b3=>
  au (
    if b3 then
     some true
    else
     au (BM e1) fun x3=>
     some (!x3)) fun b4=>
  au (
    if b4 then
     some true
    else
     au (BK e1) fun x4=>
     some (!x4)) fun b5=>
  if b5 then
   some 1
  else
   au (
     if e1.kind == 1 then
      au (mY e1.value) fun x5=>
      some (x5 != 0)
     else
      some false) fun b6=>
   if b6 then
    mY e1.value
   else
    if decide (1024 < (e1.args.length:Int)) then
     some 3
    else
     au (vR e1.keys) fun x7=>
     if x7 then
      some 7
     else
      some 0

def vQ (lQ:aj→Int→Option Int) (e1:aj) (bV:Int):Nat→Int→Option Int
 | 0,_=>none
 | bT + 1,x1=>
  if decide (x1 < (e1.args.length:Int)) then
   au (idx e1.args x1) fun e2=>
   au (lQ e2 (bZ (bV + 1))) fun f2=>
   if f2 != 0 then
    some f2
   else
    vQ lQ e1 bV bT (bZ (x1 + 1))
  else
   some 0

def BI (lQ:aj→Int→Option Int) (e1:aj) (bV:Int):Option Int:=
 au (Ep e1 bV) fun f1=>
 if f1 != 0 then
  some f1
 else
  vQ lQ e1 bV BIG 0

def nK :Nat→aj→Int→Option Int
 | 0,_,_=>none
 | k + 1,iY,gu=>BI (nK k) iY gu

def Kz (iY:aj) (gu:Int):Option Int:=nK BIG iY gu

def kQ (e1:aj):Option Int:=
 au (Fu e1) fun x1=>
 if decide (4096 < x1) then
  some 15
 else
  Kz e1 1

def oW (gM:Str):Option (aj × Int × Int):=
 none

def iM (bC:List Int):Nat→Int→bL→Option bL
 | 0,_,_=>none
 | bT + 1,x1,s1=>
  if decide (x1 < (bC.length:Int)) then
   au (idx bC x1) fun mR=>
   if mR == 1 then
    iM bC bT (bZ (x1 + 1)) s1
   else
    if mR == 3 then
     iM bC bT (bZ (x1 + 1)) (bL.mk s1.cancelled s1.failure true false)
    else
     if mR == 4 then
      iM bC bT (bZ (x1 + 1)) (bL.mk true s1.failure s1.skipped false)
     else
      if mR == 2 then
       iM bC bT (bZ (x1 + 1)) (bL.mk s1.cancelled true s1.skipped false)
      else
       iM bC bT (bZ (x1 + 1)) (bL.mk s1.cancelled s1.failure s1.skipped false)
  else
   some s1

def qA (bC:List Int):Option bL:=
 iM bC BIG 0 (bL.mk false false false true)

def nY (name1:Str) (b1:Bool):Option aA:=
 some (aA.mk name1 (ah.mk 1 b1 0 ([]:Str) [] []))

def mU (s1:List Str):Option (List Str):=
 app [] s1

def oM (v1:ah):Option ah:=
 if v1.bulk≤wB then some v1 else none

def uP (bG:List aA):Nat→List aA→Int→Option (List aA)
 | 0,_,_=>none
 | bT + 1,bH,x7=>
  if decide (x7 < (bG.length:Int)) then
   au (idx bG x7) fun e1=>
   au (oM e1.value) fun x8=>
   au (app bH [(aA.mk e1.name x8)]) fun yS=>
   uP bG bT yS (bZ (x7 + 1))
  else
   some bH

def uf (bC:List Int) (bG:List aA):Option (List aA):=
 au (qA bC) fun x1=>
 au (nY ([97,108,119,97,121,115]:Str) true) fun x2=>
 au (nY ([99,97,110,99,101,108,108,101,100]:Str) x1.cancelled) fun x3=>
 au (nY ([102,97,105,108,117,114,101]:Str) x1.failure) fun x4=>
 au (nY ([115,107,105,112,112,101,100]:Str) x1.skipped) fun x5=>
 au (nY ([115,117,99,99,101,115,115]:Str) x1.success) fun x6=>
 uP bG BIG [x2,x3,x4,x5,x6] 0

def EB (cB:List aA):Nat→Int→List (Str × Int)→Option Int
 | 0,_,_=>none
 | bT + 1,x1,y1=>
  if decide (x1 < (cB.length:Int)) then
   au (idx cB x1) fun e1=>
   au (kQ (aj.mk 2 e1.name (ah.mk 0 false 0 ([]:Str) [] []) [] [])) fun x2=>
   if x2 != 0 then
    some 1
   else
    au (mY e1.value) fun e2=>
    if e2 != 0 then
     some e2
    else
     if decide (1 < (qp (uX y1 e1.name (bZ ((qp y1 e1.name) + 1))) e1.name)) then
      some 7
     else
      EB cB bT (bZ (x1 + 1)) (uX y1 e1.name (bZ ((qp y1 e1.name) + 1)))
  else
   some 0

def Ni (cB:List aA):Option Int:=
 if decide (1024 < (cB.length:Int)) then
  some 3
 else
  EB cB BIG 0 []

def IV (e1:aj) (cB:List aA):Option (List aA × Int):=
 au (Ni cB) fun f1=>
 if f1 != 0 then
  some ([],f1)
 else
  au (kQ e1) fun f2=>
  if f2 != 0 then
   some ([],f2)
  else
   some (cB,0)

def Dq (e1:Int):Option (fO aM Unit):=
 some (.bad (aM.mk e1))

def rO (s1:List aA) (name1:Str):Nat→Int→Option (fO aM ah)
 | 0,_=>none
 | bT + 1,x1=>
  if decide (x1 < (s1.length:Int)) then
   au (idx s1 x1) fun e1=>
   if e1.name == name1 then
    some (.ok e1.value)
   else
    rO s1 name1 bT (bZ (x1 + 1))
  else
   fH (Dq 10) (fun e2=>some (.bad e2)) fun _=>
   some (.ok (ah.mk 0 false 0 ([]:Str) [] []))

def vU (s1:List aA) (name1:Str):Option (fO aM ah):=
 rO s1 name1 BIG 0

def oL (s1:Str):Option ah:=
 some (ah.mk 3 false 0 s1 [] [])

def jU (v1:ah) (fE:Int):Option Bool:=
 some (v1.kind == fE)

def fF (ok1:Bool) (e1:Int):Option (fO aM Unit):=
 if !ok1 then
  fH (Dq e1) (fun e2=>some (.bad e2)) fun _=>
  some (.ok ())
 else
  some (.ok ())

def jH (s1:List Str) (v1:Str):Nat→Int→Option Int
 | 0,_=>none
 | bT + 1,i1=>
  if decide (i1 < (s1.length:Int)) then
   au (idx s1 i1) fun e1=>
   if v1 == e1 then
    some i1
   else
    jH s1 v1 bT (bZ (i1 + 1))
  else
   some (-1)

def ku (s1:List Str) (v1:Str):Option Int:=
 jH s1 v1 BIG 0

def wZ (mO:ah→Option ah) (v1:ah):Nat→Int→ah→Option ah
 | 0,_,_=>none
 | bT + 1,x2,bH=>
  if decide (x2 < (v1.aO.length:Int)) then
   au (idx v1.aO x2) fun e1=>
   au (mO e1) fun x3=>
   au (app bH.aO [x3]) fun x4=>
   wZ mO v1 bT (bZ (x2 + 1)) (ah.mk bH.kind bH.dO bH.dI bH.bR x4 bH.keys)
  else
   some bH

def Dx (mO:ah→Option ah) (v1:ah):Option ah:=
 au (mU v1.keys) fun x1=>
 wZ mO v1 BIG 0 (ah.mk v1.kind v1.dO v1.dI v1.bR [] x1)

def nC :Nat→ah→Option ah
 | 0,_=>none
 | k + 1,qg=>Dx (nC k) qg

def pG (qg:ah):Option ah:=nC BIG qg

def CO (v1:ah) (key1:Str):Option (ah × Bool):=
 au (ku v1.keys key1) fun i1=>
 if ((v1.kind != 5) || (decide (i1 < 0))) || (decide ((v1.aO.length:Int)≤i1)) then
  some ((ah.mk 0 false 0 ([]:Str) [] []),false)
 else
  au (idx v1.aO i1) fun e1=>
  au (pG e1) fun x1=>
  some (x1,true)

def Am (m1:ah) (key1:ah):Option (fO aM ah):=
 au (jU m1 5) fun x1=>
 au (
   if x1 then
    jU key1 3
   else
    some false) fun b1=>
 fH (fF b1 9) (fun e1=>some (.bad e1)) fun _=>
 fM (CO m1 key1.bR) fun x3 ok1=>
 fH (fF ok1 8) (fun e2=>some (.bad e2)) fun _=>
 some (.ok x3)

def zi (a1:ah) (i1:ah):Option (fO aM ah):=
 au (jU a1 4) fun x1=>
 au (
   if x1 then
    jU i1 2
   else
    some false) fun b1=>
 if b1 then
  fH (fF ((decide (0≤i1.dI)) && (decide (i1.dI < (a1.aO.length:Int)))) 8) (fun e1=>some (.bad e1)) fun _=>
  au (idx a1.aO i1.dI) fun e2=>
  some (.ok e2)
 else
  fH (Am a1 i1) (fun e3=>some (.bad e3)) fun x3=>
  some (.ok x3)

def Ao (name1:Str):Option Int:=
 if name1 == ([108,101,110]:Str) then
  some 1
 else
  if name1 == ([108,111,119,101,114]:Str) then
   some 1
  else
   if name1 == ([117,112,112,101,114]:Str) then
    some 1
   else
    if name1 == ([115,116,114,105,110,103]:Str) then
     some 1
    else
     if name1 == ([105,110,116]:Str) then
      some 1
     else
      if name1 == ([107,101,121,115]:Str) then
       some 1
      else
       if name1 == ([99,111,110,116,97,105,110,115]:Str) then
        some 2
       else
        if name1 == ([106,111,105,110]:Str) then
         some 2
        else
         if name1 == ([115,112,108,105,116]:Str) then
          some 2
         else
          if name1 == ([115,116,97,114,116,115,119,105,116,104]:Str) then
           some 2
          else
           if name1 == ([101,110,100,115,119,105,116,104]:Str) then
            some 2
           else
            if name1 == ([100,101,102,97,117,108,116]:Str) then
             some 2
            else
             some 0

def tu (n1:Int):Option ah:=
 some (ah.mk 2 false n1 ([]:Str) [] [])

def Hf (l1:List ah):Option ah:=
 some (ah.mk 4 false 0 ([]:Str) l1 [])

def Ci (l1:List Str):Nat→Int→ah→Option ah
 | 0,_,_=>none
 | bT + 1,x1,bH=>
  if decide (x1 < (l1.length:Int)) then
   au (idx l1 x1) fun s1=>
   au (oL s1) fun x2=>
   au (app bH.aO [x2]) fun x3=>
   Ci l1 bT (bZ (x1 + 1)) (ah.mk bH.kind bH.dO bH.dI bH.bR x3 bH.keys)
  else
   some bH

def Dn (l1:List Str):Option ah:=
 Ci l1 BIG 0 (ah.mk 4 false 0 ([]:Str) [] [])

def sZ (b1:Bool):Option Str:=
 if b1 then
  some ([116,114,117,101]:Str)
 else
  some ([102,97,108,115,101]:Str)

def strconv_FormatBool (b1:Bool):Option Str:=
 sZ b1

def pF (s1:Str):Nat→Int→Str→Option Str
 | 0,_,_=>none
 | bT + 1,i1,b2=>
  if decide (i1 < (s1.length:Int)) then
   au (idx s1 i1) fun c1=>
   if ((c1.toNat:Int) == 34) || ((c1.toNat:Int) == 92) then
    au (app b2 [92]) fun b3=>
    au (app b3 [c1]) fun b4=>
    pF s1 bT (bZ (i1 + 1)) b4
   else
    if (c1.toNat:Int) == 10 then
     au (app b2 ([92,110]:Str)) fun b5=>
     pF s1 bT (bZ (i1 + 1)) b5
    else
     if (c1.toNat:Int) == 9 then
      au (app b2 ([92,116]:Str)) fun b6=>
      pF s1 bT (bZ (i1 + 1)) b6
     else
      if (decide (32≤(c1.toNat:Int))) && (decide ((c1.toNat:Int)≤126)) then
       au (app b2 [c1]) fun b7=>
       pF s1 bT (bZ (i1 + 1)) b7
      else
       au (app b2 ([92,120]:Str)) fun b8=>
       au (idx ([48,49,50,51,52,53,54,55,56,57,97,98,99,100,101,102]:Str) ((c1 / 16).toNat:Int)) fun x1=>
       au (app b8 [x1]) fun b9=>
       au (idx ([48,49,50,51,52,53,54,55,56,57,97,98,99,100,101,102]:Str) ((c1 % 16).toNat:Int)) fun x2=>
       au (app b9 [x2]) fun b10=>
       pF s1 bT (bZ (i1 + 1)) b10
  else
   app b2 [34]

def D8 (s1:Str):Option Str:=
 au (app [] [34]) fun b1=>
 pF s1 BIG 0 b1

def strings_Join (l1:List Str) (t1:Str):Option Str:=
 if l1.length≤140737488355328∧(qx l1 t1).length≤140737488355328 then some (qx l1 t1) else none

def uF (gD:ah→Option Str) (v1:ah):Nat→List Str→Int→Option Str
 | 0,_,_=>none
 | bT + 1,ES,i1=>
  if decide (i1 < (v1.aO.length:Int)) then
   au (idx v1.aO i1) fun e1=>
   if v1.kind == 5 then
    au (idx v1.keys i1) fun e2=>
    au (D8 e2) fun x4=>
    au (app x4 ([58,32]:Str)) fun x5=>
    au (gD e1) fun x6=>
    au (app x5 x6) fun x7=>
    au (app ES ([x7]:List Str)) fun aeI=>
    uF gD v1 bT aeI (bZ (i1 + 1))
   else
    au (gD e1) fun x8=>
    au (app ES ([x8]:List Str)) fun aeH=>
    uF gD v1 bT aeH (bZ (i1 + 1))
  else
   au (strings_Join ES ([44,32]:Str)) fun s3=>
   if v1.kind == 5 then
    au (app ([123]:Str) s3) fun x9=>
    app x9 ([125]:Str)
   else
    au (app ([91]:Str) s3) fun H8=>
    app H8 ([93]:Str)

def yD (gD:ah→Option Str) (v1:ah):Nat→List Str→Int→Option Str
 | 0,_,_=>none
 | KQ + 1,Jg,i2=>
  if decide (i2 < (v1.aO.length:Int)) then
   au (idx v1.aO i2) fun e3=>
   au (idx v1.keys i2) fun e4=>
   au (D8 e4) fun Mg=>
   au (app Mg ([58,32]:Str)) fun RP=>
   au (gD e3) fun RO=>
   au (app RP RO) fun LP=>
   au (app Jg ([LP]:List Str)) fun aeG=>
   yD gD v1 KQ aeG (bZ (i2 + 1))
  else
   au (strings_Join Jg ([44,32]:Str)) fun s5=>
   au (app ([123]:Str) s5) fun XD=>
   app XD ([125]:Str)

def zZ (gD:ah→Option Str) (v1:ah):Option Str:=
 if v1.kind == 1 then
  strconv_FormatBool v1.dO
 else
  if v1.kind == 2 then
   strconv_Itoa v1.dI
  else
   if v1.kind == 3 then
    D8 v1.bR
   else
    if v1.kind == 4 then
     uF gD v1 BIG [] 0
    else
     if v1.kind == 5 then
      yD gD v1 BIG [] 0
     else
      some ([110,117,108,108]:Str)

def sw :Nat→ah→Option Str
 | 0,_=>none
 | k + 1,qg=>zZ (sw k) qg

def Je (qg:ah):Option Str:=sw BIG qg

def Gp (v1:ah):Option (Str × Int):=
 if (v1.kind == 4) || (v1.kind == 5) then
  some (([]:Str),9)
 else
  au (mY v1) fun e1=>
  if e1 != 0 then
   some (([]:Str),e1)
  else
   if v1.kind == 0 then
    some (([]:Str),0)
   else
    if v1.kind == 3 then
     some (v1.bR,0)
    else
     au (Je v1) fun x1=>
     some (x1,0)

def uO (s1:Str) (lo1:UInt8) (hi1:UInt8) (Cw:Int):Nat→Int→Str→Option Str
 | 0,_,_=>none
 | bT + 1,i1,b1=>
  if decide (i1 < (s1.length:Int)) then
   au (idx s1 i1) fun x1=>
   au (
     if decide ((lo1.toNat:Int)≤(x1.toNat:Int)) then
      au (idx s1 i1) fun x2=>
      some (decide ((x2.toNat:Int)≤(hi1.toNat:Int)))
     else
      some false) fun b2=>
   if b2 then
    au (idx s1 i1) fun x3=>
    au (app b1 [(Ft.byteOf (bZ ((x3.toNat:Int) + Cw)))]) fun b3=>
    uO s1 lo1 hi1 Cw bT (bZ (i1 + 1)) b3
   else
    au (idx s1 i1) fun x4=>
    au (app b1 [x4]) fun b4=>
    uO s1 lo1 hi1 Cw bT (bZ (i1 + 1)) b4
  else
   some b1

def A_ (s1:Str) (lo1:UInt8) (hi1:UInt8) (Cw:Int):Option Str:=
 uO s1 lo1 hi1 Cw BIG 0 []

def xR (s1:Str):Option (Int × Bool):=
 fM (strconv_Atoi s1) fun n1 aj9=>
 au (
   if aj9.isSome then
    some true
   else
    au (strconv_Itoa n1) fun x1=>
    some (!(x1 == s1))) fun b1=>
 if (b1 || (decide (n1 < (-9007199254740992)))) || (decide (9007199254740992 < n1)) then
  some (0,false)
 else
  some (n1,true)

def Nh (name1:Str) (v1:ah):Option (fO aM ah):=
 if name1 == ([108,101,110]:Str) then
  au (jU v1 3) fun x1=>
  au (
    if x1 then
     some true
    else
     jU v1 4) fun b1=>
  au (
    if b1 then
     some true
    else
     jU v1 5) fun b2=>
  fH (fF b2 9) (fun e1=>some (.bad e1)) fun _=>
  au (tu (bZ ((v1.bR.length:Int) + (v1.aO.length:Int)))) fun x4=>
  some (.ok x4)
 else
  if name1 == ([107,101,121,115]:Str) then
   au (jU v1 5) fun x5=>
   fH (fF x5 9) (fun e2=>some (.bad e2)) fun _=>
   au (Dn v1.keys) fun x6=>
   some (.ok x6)
  else
   if name1 == ([115,116,114,105,110,103]:Str) then
    fM (Gp v1) fun t1 e3=>
    fH (fF (e3 == 0) e3) (fun e4=>some (.bad e4)) fun _=>
    au (oL t1) fun x7=>
    some (.ok x7)
   else
    au (jU v1 3) fun x8=>
    fH (fF x8 9) (fun e5=>some (.bad e5)) fun _=>
    if name1 == ([108,111,119,101,114]:Str) then
     au (A_ v1.bR 65 90 32) fun x9=>
     au (oL x9) fun wS=>
     some (.ok wS)
    else
     if name1 == ([117,112,112,101,114]:Str) then
      au (A_ v1.bR 97 122 (-32)) fun H8=>
      au (oL H8) fun LQ=>
      some (.ok LQ)
     else
      fM (xR v1.bR) fun n1 ok1=>
      fH (fF ok1 1) (fun e6=>some (.bad e6)) fun _=>
      au (tu n1) fun Mg=>
      some (.ok Mg)

def wY (b1:Bool):Option Int:=
 if b1 then
  some 1
 else
  some 0

def dL (Af:List ah) (CS:List ah) (Nr:ah→ah→Option Int):Nat→Int→Option Int
 | 0,_=>none
 | bT + 1,i1=>
  if decide (i1 < (Af.length:Int)) then
   au (idx Af i1) fun e1=>
   if decide ((CS.length:Int)≤i1) then
    some 1
   else
    au (idx CS i1) fun e2=>
    au (Nr e1 e2) fun c1=>
    if c1 != 0 then
     some c1
    else
     dL Af CS Nr bT (bZ (i1 + 1))
  else
   if decide ((Af.length:Int) < (CS.length:Int)) then
    some (-1)
   else
    some 0

def dw (Af:List ah) (CS:List ah) (Nr:ah→ah→Option Int):Option Int:=
 dL Af CS Nr BIG 0

def fq (Af:List Str) (CS:List Str) (Nr:Str→Str→Option Int):Nat→Int→Option Int
 | 0,_=>none
 | bT + 1,i1=>
  if decide (i1 < (Af.length:Int)) then
   au (idx Af i1) fun aps=>
   if decide ((CS.length:Int)≤i1) then
    some 1
   else
    au (idx CS i1) fun apr=>
    au (Nr aps apr) fun c1=>
    if c1 != 0 then
     some c1
    else
     fq Af CS Nr bT (bZ (i1 + 1))
  else
   if decide ((Af.length:Int) < (CS.length:Int)) then
    some (-1)
   else
    some 0

def fI (Af:List Str) (CS:List Str) (Nr:Str→Str→Option Int):Option Int:=
 fq Af CS Nr BIG 0

def z8 (l8:ah→ah→Option Int) (a1:ah) (b1:ah):Option Int:=
 au (cmp_Compare_int a1.kind b1.kind) fun c1=>
 if c1 != 0 then
  some c1
 else
  if a1.kind == 1 then
   au (wY a1.dO) fun x1=>
   au (wY b1.dO) fun x2=>
   cmp_Compare_int x1 x2
  else
   if a1.kind == 2 then
    cmp_Compare_int a1.dI b1.dI
   else
    if a1.kind == 3 then
     oN a1.bR b1.bR
    else
     if a1.kind == 4 then
      dw a1.aO b1.aO l8
     else
      if a1.kind == 5 then
       au (fI a1.keys b1.keys kI) fun c2=>
       if c2 != 0 then
        some c2
       else
        dw a1.aO b1.aO l8
      else
       some 0

def ko :Nat→ah→ah→Option Int
 | 0,_,_=>none
 | k + 1,sF,sD=>z8 (ko k) sF sD

def zJ (sF:ah) (sD:ah):Option Int:=ko BIG sF sD

def pI (a1:ah) (b1:ah):Option Bool:=
 au (zJ a1 b1) fun x1=>
 some (x1 == 0)

def sJ (a1:ah) (b1:ah) (rV:Int):Option Bool:=
 some ((a1.kind == rV) && (b1.kind == rV))

def strings_Contains (s1:Str) (t1:Str):Option Bool:=
 if s1.length < 4294967281 then some (om s1 t1).isSome else none

def qX (a1:ah) (b1:ah):Nat→Int→Option (fO aM Bool)
 | 0,_=>none
 | bT + 1,x2=>
  if decide (x2 < (a1.aO.length:Int)) then
   au (idx a1.aO x2) fun e1=>
   au (pI e1 b1) fun x3=>
   if x3 then
    some (.ok true)
   else
    qX a1 b1 bT (bZ (x2 + 1))
  else
   some (.ok false)

def zW (a1:ah) (b1:ah):Option (fO aM Bool):=
 au (jU a1 4) fun x1=>
 if x1 then
  qX a1 b1 BIG 0
 else
  au (sJ a1 b1 3) fun x4=>
  if x4 then
   au (strings_Contains a1.bR b1.bR) fun x5=>
   some (.ok x5)
  else
   au (jU a1 5) fun x6=>
   au (
     if x6 then
      jU b1 3
     else
      some false) fun b2=>
   fH (fF b2 9) (fun e2=>some (.bad e2)) fun _=>
   fM (CO a1 b1.bR) fun x8 ok1=>
   some (.ok ok1)

def gK (b1:Bool):Option ah:=
 some (ah.mk 1 b1 0 ([]:Str) [] [])

def xS (a1:ah) (b1:ah):Nat→Int→List Str→Int→Option (fO aM ah)
 | 0,_,_,_=>none
 | bT + 1,n1,l1,x3=>
  if decide (x3 < (a1.aO.length:Int)) then
   au (idx a1.aO x3) fun e2=>
   au (jU e2 3) fun x4=>
   fH (fF x4 9) (fun e3=>some (.bad e3)) fun _=>
   au (app l1 ([e2.bR]:List Str)) fun l2=>
   xS a1 b1 bT (bZ (n1 + (e2.bR.length:Int))) l2 (bZ (x3 + 1))
  else
   fH (fF (decide ((bZ (n1 + (bZ ((b1.bR.length:Int) * (if 0 < (bZ ((l1.length:Int) - 1)) then (bZ ((l1.length:Int) - 1)) else 0)))))≤4096)) 3) (fun e4=>some (.bad e4)) fun _=>
   au (strings_Join l1 b1.bR) fun x5=>
   au (oL x5) fun x6=>
   some (.ok x6)

def EA (a1:ah) (b1:ah):Option (fO aM ah):=
 au (jU a1 4) fun x1=>
 au (
   if x1 then
    jU b1 3
   else
    some false) fun b2=>
 fH (fF b2 9) (fun e1=>some (.bad e1)) fun _=>
 xS a1 b1 BIG 0 [] 0

def uM (s1:Str) (BH:Str):Option Bool:=
 if decide ((BH.length:Int)≤(s1.length:Int)) then
  au (sl s1 0 (BH.length:Int)) fun x1=>
  some (x1 == BH)
 else
  some false

def strings_HasPrefix (s1:Str) (BH:Str):Option Bool:=
 uM s1 BH

def uL (s1:Str) (Bj:Str):Option Bool:=
 if decide ((Bj.length:Int)≤(s1.length:Int)) then
  au (sl s1 (bZ ((s1.length:Int) - (Bj.length:Int))) (s1.length:Int)) fun x1=>
  some (x1 == Bj)
 else
  some false

def strings_HasSuffix (s1:Str) (Bj:Str):Option Bool:=
 uL s1 Bj

def strings_Split (s1:Str) (t1:Str):Option (List Str):=
 if s1.length < 4294967281∧t1≠[] then some (qD t1 (s1.length + 1) s1) else none

def Ng (name1:Str) (a1:ah) (b1:ah):Option (fO aM ah):=
 if name1 == ([100,101,102,97,117,108,116]:Str) then
  au (jU a1 0) fun x1=>
  if x1 then
   some (.ok b1)
  else
   some (.ok a1)
 else
  if name1 == ([99,111,110,116,97,105,110,115]:Str) then
   fH (zW a1 b1) (fun e1=>some (.bad e1)) fun x2=>
   au (gK x2) fun x3=>
   some (.ok x3)
  else
   if name1 == ([106,111,105,110]:Str) then
    fH (EA a1 b1) (fun e2=>some (.bad e2)) fun x4=>
    some (.ok x4)
   else
    au (sJ a1 b1 3) fun x5=>
    fH (fF x5 9) (fun e3=>some (.bad e3)) fun _=>
    if name1 == ([115,116,97,114,116,115,119,105,116,104]:Str) then
     au (strings_HasPrefix a1.bR b1.bR) fun x6=>
     au (gK x6) fun x7=>
     some (.ok x7)
    else
     if name1 == ([101,110,100,115,119,105,116,104]:Str) then
      au (strings_HasSuffix a1.bR b1.bR) fun x8=>
      au (gK x8) fun x9=>
      some (.ok x9)
     else
      fH (fF (!(b1.bR == ([]:Str))) 1) (fun e4=>some (.bad e4)) fun _=>
      au (strings_Split a1.bR b1.bR) fun l1=>
      fH (fF (decide ((l1.length:Int)≤1024)) 3) (fun e5=>some (.bad e5)) fun _=>
      au (Dn l1) fun wS=>
      some (.ok wS)

def xQ (v1:ah):Option (fO aM Bool):=
 au (jU v1 1) fun x1=>
 fH (fF x1 9) (fun e1=>some (.bad e1)) fun _=>
 some (.ok v1.dO)

def He (op1:Str) (v1:ah):Option (fO aM ah):=
 if op1 == ([33]:Str) then
  fH (xQ v1) (fun e1=>some (.bad e1)) fun x1=>
  au (gK (!x1)) fun x2=>
  some (.ok x2)
 else
  au (jU v1 2) fun x3=>
  fH (fF x3 9) (fun e2=>some (.bad e2)) fun _=>
  au (tu (bZ (0 - v1.dI))) fun x4=>
  some (.ok x4)

def qm (a1:ah) (b1:ah):Option (fO aM Int):=
 au (sJ a1 b1 2) fun x1=>
 au (
   if x1 then
    some true
   else
    sJ a1 b1 3) fun b2=>
 fH (fF b2 9) (fun e1=>some (.bad e1)) fun _=>
 au (zJ a1 b1) fun x3=>
 some (.ok x3)

def vg (n1:Int):Option (fO aM ah):=
 fH (fF ((decide ((-9007199254740992)≤n1)) && (decide (n1≤9007199254740992))) 11) (fun e1=>some (.bad e1)) fun _=>
 au (tu n1) fun x1=>
 some (.ok x1)

def JZ (a1:ah) (b1:ah):Option (fO aM ah):=
 au (sJ a1 b1 2) fun x1=>
 if x1 then
  fH (vg (bZ (a1.dI + b1.dI))) (fun e1=>some (.bad e1)) fun x2=>
  some (.ok x2)
 else
  au (sJ a1 b1 3) fun x3=>
  if x3 then
   fH (fF (decide ((bZ ((a1.bR.length:Int) + (b1.bR.length:Int)))≤4096)) 3) (fun e2=>some (.bad e2)) fun _=>
   au (app a1.bR b1.bR) fun x4=>
   au (oL x4) fun x5=>
   some (.ok x5)
  else
   au (sJ a1 b1 4) fun x6=>
   fH (fF x6 9) (fun e3=>some (.bad e3)) fun _=>
   fH (fF (decide ((bZ ((a1.aO.length:Int) + (b1.aO.length:Int)))≤1024)) 3) (fun e4=>some (.bad e4)) fun _=>
   au (app [] a1.aO) fun l1=>
   au (app l1 b1.aO) fun x7=>
   au (Hf x7) fun x8=>
   some (.ok x8)

def M4 (n1:Int):Option (BitVec 64):=
 if decide (n1 < 0) then
  some (-(BitVec.ofInt 64 n1))
 else
  some (BitVec.ofInt 64 n1)

def Fw (a1:Int) (b1:Int):Option j_:=
 au (M4 a1) fun x1=>
 au (M4 b1) fun y1=>
 au (some ((x1 &&& (4294967295:BitVec 64)) * (y1 &&& (4294967295:BitVec 64)))) fun ET=>
 au (some ((x1 >>> 32) * (y1 &&& (4294967295:BitVec 64)))) fun x2=>
 au (some ((x1 &&& (4294967295:BitVec 64)) * (y1 >>> 32))) fun x3=>
 au (some ((x2 + (ET >>> 32)) &&& (4294967295:BitVec 64))) fun x4=>
 au (some (((x1 >>> 32) * (y1 >>> 32)) + ((x2 + (ET >>> 32)) >>> 32))) fun x5=>
 au (some (((x3 + x4) <<< 32) ||| (ET &&& (4294967295:BitVec 64)))) fun x6=>
 some (j_.mk ([(x5 + ((x3 + x4) >>> 32)),x6]:List (BitVec 64)) ((!((decide (a1 < 0)) == (decide (b1 < 0)))) && (!decide (([((x5 + ((x3 + x4) >>> 32)).toNat:Int),(x6.toNat:Int)]:List Int)=([0,0]:List Int)))))

def vE (p1:j_):Option (Int × Bool):=
 if ((p1.half.getD 0 0).toNat:Int) != 0 then
  some (0,false)
 else
  if p1.neg && (decide (((p1.half.getD 1 0).toNat:Int)≤9223372036854775808)) then
   some ((bZ ((-(p1.half.getD 1 0)).toNat:Int)),true)
  else
   if (!p1.neg) && (decide (((p1.half.getD 1 0).toNat:Int)≤9223372036854775807)) then
    some ((bZ ((p1.half.getD 1 0).toNat:Int)),true)
   else
    some (0,false)

def aaE (alS:Bool):Option Int:=
 if alS then
  some (-9223372036854775808)
 else
  some 9223372036854775807

def QS (a1:Int) (b1:Int):Option Int:=
 au (Fw a1 b1) fun x1=>
 fM (vE x1) fun n1 ok1=>
 if ok1 then
  some n1
 else
  aaE x1.neg

def sK (op1:Str) (a1:ah) (b1:ah):Option (fO aM ah):=
 au (sJ a1 b1 2) fun x1=>
 fH (fF x1 9) (fun e1=>some (.bad e1)) fun _=>
 if op1 == ([45]:Str) then
  fH (vg (bZ (a1.dI - b1.dI))) (fun e2=>some (.bad e2)) fun x2=>
  some (.ok x2)
 else
  if op1 == ([42]:Str) then
   au (QS a1.dI b1.dI) fun x3=>
   fH (vg x3) (fun e3=>some (.bad e3)) fun x4=>
   some (.ok x4)
  else
   fH (fF (b1.dI != 0) 12) (fun e4=>some (.bad e4)) fun _=>
   if op1 == ([47]:Str) then
    au (chk (!(b1.dI == 0))) fun _=>
    fH (vg (bZ ((a1.dI:Int).tdiv b1.dI))) (fun e5=>some (.bad e5)) fun x5=>
    some (.ok x5)
   else
    au (chk (!(b1.dI == 0))) fun _=>
    au (tu ((a1.dI:Int).tmod b1.dI)) fun x6=>
    some (.ok x6)

def vO (bV:Int) (x1:ah):Int:=if (x1.kind == 4 || x1.kind == 5) && ((x1.aO.length:Int) == 0) then bZ (bV + 1) else bV
def jr (amS:Int) (bV:Int) (x1:ah):Option (Bool × Int):=
 some (true,if amS < vO bV x1 then vO bV x1 else amS)

def Bh (v1:ah):Option Int:=
 fM (Gm jr 0 v1 1) fun _ s1=>
 some s1

def oQ (y1:aA) (c1:aA):Option Bool:=
 some (y1.name == c1.name)

def iq (s1:List aA) (f1:aA→Option Bool):Nat→Int→Option Int
 | 0,_=>none
 | bT + 1,i1=>
  if decide (i1 < (s1.length:Int)) then
   au (idx s1 i1) fun e1=>
   au (f1 e1) fun x1=>
   if x1 then
    some i1
   else
    iq s1 f1 bT (bZ (i1 + 1))
  else
   some (-1)

def j3 (s1:List aA) (f1:aA→Option Bool):Option Int:=
 iq s1 f1 BIG 0

def iw (s1:List aA) (f1:aA→Option Bool):Option Bool:=
 au (j3 s1 f1) fun x1=>
 some (decide (0≤x1))

def D_ (bG:List aA) (i1:Int):Option Int:=
 au (idx bG i1) fun e1=>
 if (decide ((e1.name.length:Int) < 1)) || (decide (64 < (e1.name.length:Int))) then
  some 1
 else
  au (mY e1.value) fun e2=>
  if e2 != 0 then
   some e2
  else
   au (Bh e1.value) fun x1=>
   if decide (16≤x1) then
    some 13
   else
    au (sl bG 0 i1) fun x2=>
    au (iw x2 (fun z0=>oQ z0 e1)) fun x3=>
    if x3 then
     some 7
    else
     some 0

def gW (s1:List aA):Option (List aA):=
 app [] s1

def Tk (a1:aA) (b1:aA):Option Int:=
 kI a1.name b1.name

def yE (wI:List aA):Nat→Int→ah→Option (ah × Int)
 | 0,_,_=>none
 | KQ + 1,x1,bH=>
  if decide (x1 < (wI.length:Int)) then
   au (idx wI x1) fun e2=>
   au (app bH.keys ([e2.name]:List Str)) fun x2=>
   au (pG e2.value) fun x3=>
   au (app bH.aO [x3]) fun x4=>
   yE wI KQ (bZ (x1 + 1)) (ah.mk bH.kind bH.dO bH.dI bH.bR x4 x2)
  else
   some (bH,0)

def yF (bG:List aA):Nat→Int→Option (ah × Int)
 | 0,_=>none
 | bT + 1,i1=>
  if decide (i1 < (bG.length:Int)) then
   au (D_ bG i1) fun e1=>
   if e1 != 0 then
    some ((ah.mk 0 false 0 ([]:Str) [] []),e1)
   else
    yF bG bT (bZ (i1 + 1))
  else
   au (gW bG) fun UG=>
   au (YX (fun x=>x.name) UG) fun wI=>
   yE wI BIG 0 (ah.mk 5 false 0 ([]:Str) [] [])

def FU (bG:List aA):Option (ah × Int):=
 if decide (1024 < (bG.length:Int)) then
  some ((ah.mk 0 false 0 ([]:Str) [] []),3)
 else
  yF bG BIG 0

def wN (bM:List aA→aj→Option (fO aM ah)) (dP:List aA→aj→Option (fO aM ah)) (dN:List aA→List aj→Option (fO aM (List ah))) (dA:List aA→aj→Option (fO aM ah)) (cK:List aA→aj→Option (fO aM ah)) (s1:List aA) (e1:aj):Option (fO aM ah):=
 if e1.kind == 1 then
  some (.ok e1.value)
 else
  if e1.kind == 2 then
   fH (vU s1 e1.name) (fun e2=>some (.bad e2)) fun x1=>
   some (.ok x1)
  else
   if e1.kind == 3 then
    au (idx e1.args 0) fun e3=>
    fH (bM s1 e3) (fun e4=>some (.bad e4)) fun x2=>
    au (oL e1.name) fun x3=>
    fH (Am x2 x3) (fun e5=>some (.bad e5)) fun x4=>
    some (.ok x4)
   else
    if e1.kind == 4 then
     au (idx e1.args 0) fun e6=>
     fH (bM s1 e6) (fun e7=>some (.bad e7)) fun x5=>
     au (idx e1.args 1) fun e8=>
     fH (bM s1 e8) (fun e9=>some (.bad e9)) fun x6=>
     fH (zi x5 x6) (fun e10=>some (.bad e10)) fun x7=>
     some (.ok x7)
    else
     if e1.kind == 5 then
      fH (dP s1 e1) (fun e11=>some (.bad e11)) fun x8=>
      some (.ok x8)
     else
      if e1.kind == 6 then
       au (idx e1.args 0) fun e12=>
       fH (bM s1 e12) (fun e13=>some (.bad e13)) fun x9=>
       fH (He e1.name x9) (fun e14=>some (.bad e14)) fun wS=>
       some (.ok wS)
      else
       if e1.kind == 7 then
        fH (dA s1 e1) (fun e15=>some (.bad e15)) fun H8=>
        some (.ok H8)
       else
        if e1.kind == 8 then
         au (idx e1.args 0) fun e16=>
         fH (bM s1 e16) (fun e17=>some (.bad e17)) fun LQ=>
         fH (xQ LQ) (fun e18=>some (.bad e18)) fun Mg=>
         if Mg then
          au (idx e1.args 1) fun e19=>
          fH (bM s1 e19) (fun e20=>some (.bad e20)) fun RP=>
          some (.ok RP)
         else
          au (idx e1.args 2) fun e21=>
          fH (bM s1 e21) (fun e22=>some (.bad e22)) fun RO=>
          some (.ok RO)
        else
         if e1.kind == 9 then
          fH (dN s1 e1.args) (fun e23=>some (.bad e23)) fun LP=>
          au (Hf LP) fun XD=>
          au (mY XD) fun y8=>
          fH (fF (y8 == 0) 13) (fun e24=>some (.bad e24)) fun _=>
          some (.ok XD)
         else
          fH (cK s1 e1) (fun e25=>some (.bad e25)) fun y9=>
          some (.ok y9)

def tq (bM:List aA→aj→Option (fO aM ah)) (dP:List aA→aj→Option (fO aM ah)) (dN:List aA→List aj→Option (fO aM (List ah))) (dA:List aA→aj→Option (fO aM ah)) (cK:List aA→aj→Option (fO aM ah)) (s1:List aA) (e1:aj):Option (fO aM ah):=
 au (Ao e1.name) fun n1=>
 fH (fF (decide (0 < n1)) 10) (fun e2=>some (.bad e2)) fun _=>
 fH (fF ((e1.args.length:Int) == n1) 1) (fun e3=>some (.bad e3)) fun _=>
 fH (dN s1 e1.args) (fun e4=>some (.bad e4)) fun args1=>
 if n1 == 1 then
  au (idx args1 0) fun e5=>
  fH (Nh e1.name e5) (fun e6=>some (.bad e6)) fun x1=>
  some (.ok x1)
 else
  au (idx args1 0) fun e7=>
  au (idx args1 1) fun e8=>
  fH (Ng e1.name e7 e8) (fun e9=>some (.bad e9)) fun x2=>
  some (.ok x2)

def pY (bM:List aA→aj→Option (fO aM ah)) (s1:List aA) (l1:List aj):Nat→List ah→Int→Option (fO aM (List ah))
 | 0,_,_=>none
 | bT + 1,bH,x1=>
  if decide (x1 < (l1.length:Int)) then
   au (idx l1 x1) fun e1=>
   fH (bM s1 e1) (fun e2=>some (.bad e2)) fun x2=>
   au (app bH [x2]) fun yS=>
   pY bM s1 l1 bT yS (bZ (x1 + 1))
  else
   some (.ok bH)

def Dp (bM:List aA→aj→Option (fO aM ah)) (dP:List aA→aj→Option (fO aM ah)) (dN:List aA→List aj→Option (fO aM (List ah))) (dA:List aA→aj→Option (fO aM ah)) (cK:List aA→aj→Option (fO aM ah)) (s1:List aA) (l1:List aj):Option (fO aM (List ah)):=
 pY bM s1 l1 BIG [] 0

def qz (bM:List aA→aj→Option (fO aM ah)) (dP:List aA→aj→Option (fO aM ah)) (dN:List aA→List aj→Option (fO aM (List ah))) (dA:List aA→aj→Option (fO aM ah)) (cK:List aA→aj→Option (fO aM ah)) (s1:List aA) (e1:aj):Option (fO aM ah):=
 au (idx e1.args 0) fun e2=>
 fH (bM s1 e2) (fun e3=>some (.bad e3)) fun x1=>
 if (e1.name == ([38,38]:Str)) || (e1.name == ([124,124]:Str)) then
  fH (xQ x1) (fun e4=>some (.bad e4)) fun x2=>
  if x2 == (e1.name == ([124,124]:Str)) then
   some (.ok x1)
  else
   au (idx e1.args 1) fun e5=>
   fH (bM s1 e5) (fun e6=>some (.bad e6)) fun x3=>
   fH (xQ x3) (fun e7=>some (.bad e7)) fun x4=>
   au (gK x4) fun x5=>
   some (.ok x5)
 else
  au (idx e1.args 1) fun e8=>
  fH (bM s1 e8) (fun e9=>some (.bad e9)) fun x6=>
  if e1.name == ([61,61]:Str) then
   au (pI x1 x6) fun x7=>
   au (gK x7) fun x8=>
   some (.ok x8)
  else
   if e1.name == ([33,61]:Str) then
    au (pI x1 x6) fun x9=>
    au (gK (!x9)) fun wS=>
    some (.ok wS)
   else
    if e1.name == ([60]:Str) then
     fH (qm x1 x6) (fun e10=>some (.bad e10)) fun H8=>
     au (gK (decide (H8 < 0))) fun LQ=>
     some (.ok LQ)
    else
     if e1.name == ([60,61]:Str) then
      fH (qm x1 x6) (fun e11=>some (.bad e11)) fun Mg=>
      au (gK (decide (Mg≤0))) fun RP=>
      some (.ok RP)
     else
      if e1.name == ([62]:Str) then
       fH (qm x1 x6) (fun e12=>some (.bad e12)) fun RO=>
       au (gK (decide (0 < RO))) fun LP=>
       some (.ok LP)
      else
       if e1.name == ([62,61]:Str) then
        fH (qm x1 x6) (fun e13=>some (.bad e13)) fun XD=>
        au (gK (decide (0≤XD))) fun y8=>
        some (.ok y8)
       else
        if e1.name == ([43]:Str) then
         fH (JZ x1 x6) (fun e14=>some (.bad e14)) fun y9=>
         some (.ok y9)
        else
         fH (sK e1.name x1 x6) (fun e15=>some (.bad e15)) fun x20=>
         some (.ok x20)

def oD (e1:aj) (x1:List ah):Nat→List aA→Int→Option (fO aM ah)
 | 0,_,_=>none
 | bT + 1,bG,i1=>
  if decide (i1 < (x1.length:Int)) then
   au (idx x1 i1) fun e3=>
   au (idx e1.keys i1) fun e4=>
   au (app bG [(aA.mk e4 e3)]) fun Gl=>
   oD e1 x1 bT Gl (bZ (i1 + 1))
  else
   fM (FU bG) fun x2 IZ=>
   fH (fF (IZ == 0) IZ) (fun e5=>some (.bad e5)) fun _=>
   some (.ok x2)

def pV (bM:List aA→aj→Option (fO aM ah)) (dP:List aA→aj→Option (fO aM ah)) (dN:List aA→List aj→Option (fO aM (List ah))) (dA:List aA→aj→Option (fO aM ah)) (cK:List aA→aj→Option (fO aM ah)) (s1:List aA) (e1:aj):Option (fO aM ah):=
 fH (dN s1 e1.args) (fun e2=>some (.bad e2)) fun x1=>
 oD e1 x1 BIG [] 0

mutual
def dU :Nat→List aA→aj→Option (fO aM ah)
 | 0,_,_=>none
 | k + 1,vP,iY=>wN (dU k) (fQ k) (gG k) (fB k) (eO k) vP iY
def fQ :Nat→List aA→aj→Option (fO aM ah)
 | 0,_,_=>none
 | k + 1,vP,iY=>tq (dU k) (fQ k) (gG k) (fB k) (eO k) vP iY
def gG :Nat→List aA→List aj→Option (fO aM (List ah))
 | 0,_,_=>none
 | k + 1,vP,Uh=>Dp (dU k) (fQ k) (gG k) (fB k) (eO k) vP Uh
def fB :Nat→List aA→aj→Option (fO aM ah)
 | 0,_,_=>none
 | k + 1,vP,iY=>qz (dU k) (fQ k) (gG k) (fB k) (eO k) vP iY
def eO :Nat→List aA→aj→Option (fO aM ah)
 | 0,_,_=>none
 | k + 1,vP,iY=>pV (dU k) (fQ k) (gG k) (fB k) (eO k) vP iY
end

def EW (vP:List aA) (iY:aj):Option (fO aM ah):=dU BIG vP iY

def Ur (vP:List aA) (iY:aj):Option (fO aM ah):=fQ BIG vP iY

def Wt (vP:List aA) (Uh:List aj):Option (fO aM (List ah)):=gG BIG vP Uh

def Ri (vP:List aA) (iY:aj):Option (fO aM ah):=fB BIG vP iY

def PU (vP:List aA) (iY:aj):Option (fO aM ah):=eO BIG vP iY

def Cj (s1:List aA) (e1:aj):Option (ah × Int):=
 fH (EW s1 e1) (fun f1=>some ((ah.mk 0 false 0 ([]:Str) [] []),f1.code)) fun v1=>
 some (v1,0)

def zX (nH:ah→Option ah) (v1:ah):Nat→Int→ah→Option ah
 | 0,_,_=>none
 | bT + 1,x1,bH=>
  if decide (x1 < (v1.aO.length:Int)) then
   au (idx v1.aO x1) fun e1=>
   au (nH e1) fun x2=>
   au (app bH.aO [x2]) fun x3=>
   zX nH v1 bT (bZ (x1 + 1)) (ah.mk bH.kind bH.dO bH.dI bH.bR x3 bH.keys)
  else
   au (app bH.keys v1.keys) fun x4=>
   some (ah.mk bH.kind bH.dO bH.dI bH.bR bH.aO x4)

def Fz (nH:ah→Option ah) (v1:ah):Option ah:=
 zX nH v1 BIG 0 (ah.mk v1.kind v1.dO v1.dI v1.bR [] [])

def o_ :Nat→ah→Option ah
 | 0,_=>none
 | k + 1,qg=>Fz (o_ k) qg

def Ap (qg:ah):Option ah:=o_ BIG qg

def Ba (e1:aj) (cB:List aA):Option (ah × Int):=
 fM (IV e1 cB) fun s1 f1=>
 if f1 != 0 then
  some ((ah.mk 0 false 0 ([]:Str) [] []),f1)
 else
  fM (Cj s1 e1) fun x1 f2=>
  au (Ap x1) fun x2=>
  some (x2,f2)

def jO (fD:aj) (bC:List Int) (bG:List aA):Option (Bool × Int):=
 au (uf bC bG) fun x1=>
 fM (Ba fD x1) fun x2 e1=>
 if e1 != 0 then
  some (false,e1)
 else
  if x2.kind != 1 then
   some (false,9)
  else
   some (x2.dO,0)

def mW (gM:Str) (bC:List Int):Option (Bool × Int):=
 LH (oW gM) fun x1 x2 f1=>
 if f1 != 0 then
  some (false,f1)
 else
  jO x1 bC []

def nO :Option aj:=
 some (aj.mk 2 ([115,117,99,99,101,115,115]:Str) (ah.mk 0 false 0 ([]:Str) [] []) [] [])

def Av (fE:Int):Option Str:=
 if (decide (fE < 0)) || (decide (8≤fE)) then
  some ([]:Str)
 else
  idx ([([97,110,121]:Str),([110,117,108,108]:Str),([98,111,111,108]:Str),([105,110,116]:Str),([115,116,114,105,110,103]:Str),([108,105,115,116]:Str),([109,97,112]:Str),([110,101,118,101,114]:Str)]:List Str) fE

def jS (fE:Int):Option Bool:=
 some ((fE == 5) || (fE == 6))

def mQ :Nat→Int→ak→Option Int
 | 0,_,_=>none
 | bT + 1,bV,t2=>
  if decide (16 < bV) then
   some 13
  else
   au (Av t2.kind) fun x1=>
   au (
     if x1 == ([]:Str) then
      some true
     else
      au (jS t2.kind) fun x2=>
      some (x2 && ((t2.elem.length:Int) != 1))) fun b1=>
   au (
     if b1 then
      some true
     else
      au (jS t2.kind) fun x3=>
      some ((!x3) && ((t2.elem.length:Int) != 0))) fun b2=>
   if b2 then
    some 1
   else
    au (jS t2.kind) fun x4=>
    if !x4 then
     some 0
    else
     au (idx t2.elem 0) fun e1=>
     mQ bT (bZ (bV + 1)) e1

def lW (t1:ak):Option Int:=
 mQ BIG 1 t1

def Co (cB:List aH):Nat→Int→List (Str × Int)→Option Int
 | 0,_,_=>none
 | bT + 1,x1,y1=>
  if decide (x1 < (cB.length:Int)) then
   au (idx cB x1) fun e1=>
   au (kQ (aj.mk 2 e1.name (ah.mk 0 false 0 ([]:Str) [] []) [] [])) fun x2=>
   if x2 != 0 then
    some 1
   else
    au (lW e1.rY) fun e2=>
    if e2 != 0 then
     some e2
    else
     if decide (1 < (qp (uX y1 e1.name (bZ ((qp y1 e1.name) + 1))) e1.name)) then
      some 7
     else
      Co cB bT (bZ (x1 + 1)) (uX y1 e1.name (bZ ((qp y1 e1.name) + 1)))
  else
   some 0

def J6 (cB:List aH):Option Int:=
 if decide (1024 < (cB.length:Int)) then
  some 3
 else
  Co cB BIG 0 []

def gB (fE:Int):Option ak:=
 some (ak.mk fE [])

def nQ (fE:Int) (kg:ak):Option ak:=
 some (ak.mk fE [kg])

def kJ (name1:Str):Option (List (List ak) × ak):=
 au (gB 0) fun x1=>
 au (gB 3) fun x2=>
 au (gB 4) fun x3=>
 au (gB 2) fun x4=>
 au (nQ 5 x1) fun x5=>
 au (nQ 6 x1) fun x6=>
 au (nQ 5 x3) fun x7=>
 if name1 == ([108,101,110]:Str) then
  some ([[x3],[x5],[x6]],x2)
 else
  if name1 == ([99,111,110,116,97,105,110,115]:Str) then
   some ([[x5,x1],[x3,x3],[x6,x3]],x4)
  else
   if name1 == ([106,111,105,110]:Str) then
    some ([[x7,x3]],x3)
   else
    if name1 == ([115,116,114,105,110,103]:Str) then
     au (gB 1) fun x8=>
     some ([[x8],[x4],[x2],[x3]],x3)
    else
     if name1 == ([108,111,119,101,114]:Str) then
      some ([[x3]],x3)
     else
      if name1 == ([117,112,112,101,114]:Str) then
       some ([[x3]],x3)
      else
       if name1 == ([115,112,108,105,116]:Str) then
        some ([[x3,x3]],x7)
       else
        if name1 == ([115,116,97,114,116,115,119,105,116,104]:Str) then
         some ([[x3,x3]],x4)
        else
         if name1 == ([101,110,100,115,119,105,116,104]:Str) then
          some ([[x3,x3]],x4)
         else
          if name1 == ([105,110,116]:Str) then
           some ([[x3]],x2)
          else
           if name1 == ([100,101,102,97,117,108,116]:Str) then
            some ([[x1,x1]],x1)
           else
            if name1 == ([107,101,121,115]:Str) then
             some ([[x6]],x7)
            else
             some ([],x1)

def gI (t1:ak):Option Bool:=
 some ((t1.kind == 0) || (t1.kind == 7))

def mX (nT:ak→ak→Option Bool) (t1:ak) (u1:ak):Option Bool:=
 au (gI t1) fun x1=>
 if x1 || (u1.kind == 0) then
  some true
 else
  if t1.kind != u1.kind then
   some false
  else
   if ((t1.elem.length:Int) == 1) && ((u1.elem.length:Int) == 1) then
    au (idx t1.elem 0) fun e1=>
    au (idx u1.elem 0) fun e2=>
    nT e1 e2
   else
    some true

def jG :Nat→ak→ak→Option Bool
 | 0,_,_=>none
 | k + 1,z_,Uf=>mX (jG k) z_ Uf

def jP (z_:ak) (Uf:ak):Option Bool:=jG BIG z_ Uf

def uR (yA:List ak) (D7:List ak):Nat→Int→Option Bool
 | 0,_=>none
 | bT + 1,i1=>
  if decide (i1 < (D7.length:Int)) then
   au (idx yA i1) fun e1=>
   au (idx D7 i1) fun e2=>
   au (jP e1 e2) fun x1=>
   if !x1 then
    some false
   else
    uR yA D7 bT (bZ (i1 + 1))
  else
   some true

def tC (yA:List ak) (D7:List ak):Option Bool:=
 uR yA D7 BIG 0

def g_ (fE:Int):Option ak:=
 some (ak.mk fE [])

def qU (fE:Int) (kg:ak):Option ak:=
 some (ak.mk fE [kg])

def w_ (sI:ak→Option ak) (t1:ak):Option ak:=
 au (jS t1.kind) fun x1=>
 if !x1 then
  g_ t1.kind
 else
  au (idx t1.elem 0) fun e1=>
  au (sI e1) fun x3=>
  qU t1.kind x3

def pJ :Nat→ak→Option ak
 | 0,_=>none
 | k + 1,z_=>w_ (pJ k) z_

def Fb (z_:ak):Option ak:=pJ BIG z_

def tY (uN:ak→ak→Option ak) (a1:ak) (b1:ak):Option ak:=
 if a1.kind == 7 then
  Fb b1
 else
  if b1.kind == 7 then
   Fb a1
  else
   if a1.kind != b1.kind then
    g_ 0
   else
    au (jS a1.kind) fun x4=>
    if x4 then
     au (idx a1.elem 0) fun e1=>
     au (idx b1.elem 0) fun e2=>
     au (uN e1 e2) fun x5=>
     qU a1.kind x5
    else
     g_ a1.kind

def nD :Nat→ak→ak→Option ak
 | 0,_,_=>none
 | k + 1,sF,sD=>tY (nD k) sF sD

def Ec (sF:ak) (sD:ak):Option ak:=nD BIG sF sD

def w9 (mP:ah→Option ak) (v1:ah):Nat→Int→ak→Option ak
 | 0,_,_=>none
 | bT + 1,x6,kg=>
  if decide (x6 < (v1.aO.length:Int)) then
   au (idx v1.aO x6) fun e1=>
   au (mP e1) fun x7=>
   au (Ec kg x7) fun x8=>
   w9 mP v1 bT (bZ (x6 + 1)) x8
  else
   if v1.kind == 4 then
    qU 5 kg
   else
    qU 6 kg

def Dy (mP:ah→Option ak) (v1:ah):Option ak:=
 if v1.kind == 0 then
  g_ 1
 else
  if v1.kind == 1 then
   g_ 2
  else
   if v1.kind == 2 then
    g_ 3
   else
    if v1.kind == 3 then
     g_ 4
    else
     au (g_ 7) fun x5=>
     w9 mP v1 BIG 0 x5

def oV :Nat→ah→Option ak
 | 0,_=>none
 | k + 1,qg=>Dy (oV k) qg

def Mq (qg:ah):Option ak:=oV BIG qg

def Jv (v1:ah):Option ak:=
 au (mY v1) fun x1=>
 if x1 != 0 then
  g_ 0
 else
  Mq v1

def tH (cB:List aH) (name1:Str):Nat→Int→Option (ak × Int)
 | 0,_=>none
 | bT + 1,x1=>
  if decide (x1 < (cB.length:Int)) then
   au (idx cB x1) fun e1=>
   if e1.name == name1 then
    some (e1.rY,0)
   else
    tH cB name1 bT (bZ (x1 + 1))
  else
   some ((ak.mk 0 []),10)

def xW (cB:List aH) (name1:Str):Option (ak × Int):=
 tH cB name1 BIG 0

def Cm (t1:ak):Option (ak × Int):=
 au (gI t1) fun x1=>
 if x1 then
  some (t1,0)
 else
  if t1.kind == 6 then
   au (idx t1.elem 0) fun e1=>
   some (e1,0)
  else
   some ((ak.mk 0 []),9)

def EF (t1:ak) (i1:ak):Option (ak × Int):=
 au (gB 3) fun x1=>
 au (jP i1 x1) fun QO=>
 au (gB 4) fun x2=>
 au (jP i1 x2) fun text1=>
 if (t1.kind == 5) && QO then
  au (idx t1.elem 0) fun e1=>
  some (e1,0)
 else
  if (t1.kind == 6) && text1 then
   au (idx t1.elem 0) fun e2=>
   some (e2,0)
  else
   au (gI t1) fun x3=>
   if x3 && (QO || text1) then
    some (t1,0)
   else
    some ((ak.mk 0 []),9)

def ED (op1:Str) (t1:ak):Option (ak × Int):=
 au (gB 3) fun x1=>
 if op1 == ([33]:Str) then
  au (gB 2) fun x2=>
  au (jP t1 x2) fun x3=>
  if !x3 then
   some ((ak.mk 0 []),9)
  else
   some (x2,0)
 else
  au (jP t1 x1) fun x4=>
  if !x4 then
   some ((ak.mk 0 []),9)
  else
   some (x1,0)

def kC (fE:Int) (c1:ak) (c2:ak):Option Bool:=
 au (gB fE) fun x1=>
 au (jP c1 x1) fun x2=>
 if x2 then
  au (gB fE) fun x3=>
  jP c2 x3
 else
  some false

def jy (a1:ak) (b1:ak) (fE:Int):Option Bool:=
 au (gI a1) fun x1=>
 au (
   if x1 || (a1.kind == fE) then
    au (gI b1) fun x2=>
    some (x2 || (b1.kind == fE))
   else
    some false) fun b2=>
 some (b2 && ((a1.kind == fE) || (b1.kind == fE)))

def wu (t1:ak):Option ak:=
 au (gI t1) fun x1=>
 if x1 then
  some t1
 else
  idx t1.elem 0

def Im (a1:ak) (b1:ak):Option Bool:=
 au (lW a1) fun x1=>
 if x1 == 0 then
  au (lW b1) fun x2=>
  some (x2 == 0)
 else
  some false

def nW (a1:ak) (b1:ak):Option ak:=
 au (Im a1 b1) fun x1=>
 if !x1 then
  g_ 0
 else
  Ec a1 b1

def J5 (a1:ak) (b1:ak):Option (ak × Int):=
 au (gI a1) fun x1=>
 au (
   if x1 then
    gI b1
   else
    some false) fun b2=>
 if b2 then
  if (a1.kind == 0) || (b1.kind == 0) then
   au (gB 0) fun x3=>
   some (x3,0)
  else
   au (gB 7) fun x4=>
   some (x4,0)
 else
  au (jy a1 b1 3) fun x5=>
  if x5 then
   au (gB 3) fun x6=>
   some (x6,0)
  else
   au (jy a1 b1 4) fun x7=>
   if x7 then
    au (gB 4) fun x8=>
    some (x8,0)
   else
    au (jy a1 b1 5) fun x9=>
    if x9 then
     au (wu a1) fun wS=>
     au (wu b1) fun H8=>
     au (nW wS H8) fun LQ=>
     au (nQ 5 LQ) fun Mg=>
     some (Mg,0)
    else
     some ((ak.mk 0 []),9)

def FJ (op1:Str) (a1:ak) (b1:ak):Option (ak × Int):=
 if op1 == ([38,38]:Str) then
  au (kC 2 a1 b1) fun x1=>
  if x1 then
   au (gB 2) fun x2=>
   some (x2,0)
  else
   some ((ak.mk 0 []),9)
 else
  if op1 == ([124,124]:Str) then
   au (kC 2 a1 b1) fun x3=>
   if x3 then
    au (gB 2) fun x4=>
    some (x4,0)
   else
    some ((ak.mk 0 []),9)
  else
   if op1 == ([61,61]:Str) then
    au (gB 2) fun x5=>
    some (x5,0)
   else
    if op1 == ([33,61]:Str) then
     au (gB 2) fun x6=>
     some (x6,0)
    else
     if op1 == ([60]:Str) then
      au (gI a1) fun x7=>
      au (
        if x7 then
         gI b1
        else
         some false) fun b2=>
      au (
        if b2 then
         some true
        else
         jy a1 b1 3) fun b3=>
      au (
        if b3 then
         some true
        else
         jy a1 b1 4) fun b4=>
      if b4 then
       au (gB 2) fun H8=>
       some (H8,0)
      else
       some ((ak.mk 0 []),9)
     else
      if op1 == ([60,61]:Str) then
       au (gI a1) fun LQ=>
       au (
         if LQ then
          gI b1
         else
          some false) fun b5=>
       au (
         if b5 then
          some true
         else
          jy a1 b1 3) fun b6=>
       au (
         if b6 then
          some true
         else
          jy a1 b1 4) fun b7=>
       if b7 then
        au (gB 2) fun LP=>
        some (LP,0)
       else
        some ((ak.mk 0 []),9)
      else
       if op1 == ([62]:Str) then
        au (gI a1) fun XD=>
        au (
          if XD then
           gI b1
          else
           some false) fun b8=>
        au (
          if b8 then
           some true
          else
           jy a1 b1 3) fun b9=>
        au (
          if b9 then
           some true
          else
           jy a1 b1 4) fun b10=>
        if b10 then
         au (gB 2) fun x21=>
         some (x21,0)
        else
         some ((ak.mk 0 []),9)
       else
        if op1 == ([62,61]:Str) then
         au (gI a1) fun x22=>
         au (
           if x22 then
            gI b1
           else
            some false) fun b11=>
         au (
           if b11 then
            some true
           else
            jy a1 b1 3) fun b12=>
         au (
           if b12 then
            some true
           else
            jy a1 b1 4) fun b13=>
         if b13 then
          au (gB 2) fun x26=>
          some (x26,0)
         else
          some ((ak.mk 0 []),9)
        else
         if op1 == ([45]:Str) then
          au (kC 3 a1 b1) fun x27=>
          if x27 then
           au (gB 3) fun x28=>
           some (x28,0)
          else
           some ((ak.mk 0 []),9)
         else
          if op1 == ([42]:Str) then
           au (kC 3 a1 b1) fun x29=>
           if x29 then
            au (gB 3) fun x30=>
            some (x30,0)
           else
            some ((ak.mk 0 []),9)
          else
           if op1 == ([47]:Str) then
            au (kC 3 a1 b1) fun x31=>
            if x31 then
             au (gB 3) fun x32=>
             some (x32,0)
            else
             some ((ak.mk 0 []),9)
           else
            if op1 == ([37]:Str) then
             au (kC 3 a1 b1) fun x33=>
             if x33 then
              au (gB 3) fun x34=>
              some (x34,0)
             else
              some ((ak.mk 0 []),9)
            else
             if op1 == ([43]:Str) then
              J5 a1 b1
             else
              some ((ak.mk 0 []),9)

def tF (fE:Int) (yA:List ak):Nat→Int→ak→Option (ak × Int)
 | 0,_,_=>none
 | bT + 1,x2,kg=>
  if decide (x2 < (yA.length:Int)) then
   au (idx yA x2) fun e1=>
   au (nW kg e1) fun x3=>
   tF fE yA bT (bZ (x2 + 1)) x3
  else
   au (nQ fE kg) fun x4=>
   au (lW x4) fun x5=>
   if x5 != 0 then
    some ((ak.mk 0 []),13)
   else
    some (x4,0)

def uS (fE:Int) (yA:List ak):Option (ak × Int):=
 au (gB 7) fun x1=>
 tF fE yA BIG 0 x1

def FI (iD:aj→List aH→Option (ak × Int)) (jT:aj→List aH→Option (ak × Int)) (j6:List aj→List aH→Option (List ak × Int)) (e1:aj) (cB:List aH):Option (ak × Int):=
 if e1.kind == 5 then
  jT e1 cB
 else
  fM (j6 e1.args cB) fun yA f1=>
  if f1 != 0 then
   some ((ak.mk 0 []),f1)
  else
   if e1.kind == 1 then
    au (Jv e1.value) fun x3=>
    some (x3,0)
   else
    if e1.kind == 2 then
     xW cB e1.name
    else
     if e1.kind == 3 then
      au (idx yA 0) fun e2=>
      Cm e2
     else
      if e1.kind == 4 then
       au (idx yA 0) fun e3=>
       au (idx yA 1) fun e4=>
       EF e3 e4
      else
       if e1.kind == 6 then
        au (idx yA 0) fun e5=>
        ED e1.name e5
       else
        if e1.kind == 7 then
         au (idx yA 0) fun e6=>
         au (idx yA 1) fun e7=>
         FJ e1.name e6 e7
        else
         if e1.kind == 8 then
          au (idx yA 0) fun e8=>
          au (gB 2) fun RP=>
          au (jP e8 RP) fun RO=>
          if !RO then
           some ((ak.mk 0 []),9)
          else
           au (idx yA 1) fun e9=>
           au (idx yA 2) fun e10=>
           au (nW e9 e10) fun LP=>
           some (LP,0)
         else
          if e1.kind == 9 then
           uS 5 yA
          else
           uS 6 yA

def pq (e1:aj) (kK:List (List ak)) (x1:ak) (yA:List ak):Nat→Int→Option (ak × Int)
 | 0,_=>none
 | bT + 1,x2=>
  if decide (x2 < (kK.length:Int)) then
   au (idx kK x2) fun D7=>
   au (tC yA D7) fun x3=>
   if !x3 then
    pq e1 kK x1 yA bT (bZ (x2 + 1))
   else
    if !(e1.name == ([100,101,102,97,117,108,116]:Str)) then
     some (x1,0)
    else
     au (idx yA 0) fun e3=>
     if e3.kind == 1 then
      au (idx yA 1) fun e4=>
      some (e4,0)
     else
      au (idx yA 0) fun e5=>
      some (e5,0)
  else
   some ((ak.mk 0 []),9)

def Cn (iD:aj→List aH→Option (ak × Int)) (jT:aj→List aH→Option (ak × Int)) (j6:List aj→List aH→Option (List ak × Int)) (e1:aj) (cB:List aH):Option (ak × Int):=
 fM (kJ e1.name) fun kK x1=>
 if (kK.length:Int) == 0 then
  some ((ak.mk 0 []),10)
 else
  au (idx kK 0) fun e2=>
  if (e1.args.length:Int) != (e2.length:Int) then
   some ((ak.mk 0 []),1)
  else
   fM (j6 e1.args cB) fun yA f1=>
   if f1 != 0 then
    some ((ak.mk 0 []),f1)
   else
    pq e1 kK x1 yA BIG 0

def qJ (iD:aj→List aH→Option (ak × Int)) (l1:List aj) (cB:List aH):Nat→List ak→Int→Option (List ak × Int)
 | 0,_,_=>none
 | bT + 1,bH,x1=>
  if decide (x1 < (l1.length:Int)) then
   au (idx l1 x1) fun e1=>
   fM (iD e1 cB) fun x2 f1=>
   if f1 != 0 then
    some ([],f1)
   else
    au (app bH [x2]) fun yS=>
    qJ iD l1 cB bT yS (bZ (x1 + 1))
  else
   some (bH,0)

def Nt (iD:aj→List aH→Option (ak × Int)) (jT:aj→List aH→Option (ak × Int)) (j6:List aj→List aH→Option (List ak × Int)) (l1:List aj) (cB:List aH):Option (List ak × Int):=
 qJ iD l1 cB BIG [] 0

mutual
def iN :Nat→aj→List aH→Option (ak × Int)
 | 0,_,_=>none
 | k + 1,iY,eU=>FI (iN k) (nR k) (mD k) iY eU
def nR :Nat→aj→List aH→Option (ak × Int)
 | 0,_,_=>none
 | k + 1,iY,eU=>Cn (iN k) (nR k) (mD k) iY eU
def mD :Nat→List aj→List aH→Option (List ak × Int)
 | 0,_,_=>none
 | k + 1,Uh,eU=>Nt (iN k) (nR k) (mD k) Uh eU
end

def PZ (iY:aj) (eU:List aH):Option (ak × Int):=iN BIG iY eU

def afb (iY:aj) (eU:List aH):Option (ak × Int):=nR BIG iY eU

def ahJ (Uh:List aj) (eU:List aH):Option (List ak × Int):=mD BIG Uh eU

def xX (e1:aj) (cB:List aH):Option (ak × Int):=
 au (J6 cB) fun f1=>
 if f1 != 0 then
  some ((ak.mk 0 []),f1)
 else
  au (kQ e1) fun f2=>
  if f2 != 0 then
   some ((ak.mk 0 []),f2)
  else
   fM (PZ e1 cB) fun x1 f3=>
   if f3 != 0 then
    some ((ak.mk 0 []),f3)
   else
    au (gB 7) fun x2=>
    au (nW x1 x2) fun x3=>
    some (x3,0)

def rQ (fD:aj) (bG:List aH) (x1:List aA):Nat→List aH→Int→Option Int
 | 0,_,_=>none
 | bT + 1,decls1,x2=>
  if decide (x2 < (x1.length:Int)) then
   au (idx x1 x2) fun e1=>
   au (app decls1 [(aH.mk e1.name (ak.mk 2 []))]) fun decls2=>
   rQ fD bG x1 bT decls2 (bZ (x2 + 1))
  else
   au (app decls1 bG) fun x3=>
   fM (xX fD x3) fun x4 e2=>
   if e2 != 0 then
    some e2
   else
    if x4.kind == 2 then
     some 0
    else
     if x4.kind == 0 then
      some 0
     else
      if x4.kind == 7 then
       some 0
      else
       some 9

def je (fD:aj) (bG:List aH):Option Int:=
 au (uf [] []) fun x1=>
 rQ fD bG x1 BIG [] 0

def MG :Option aj:=
 some (aj.mk 2 ([115,117,99,99,101,115,115]:Str) (ah.mk 0 false 0 ([]:Str) [] []) [] [])

def pO (UY:Bool):Option Int:=
 if UY then
  some (-1)
 else
  some 1

def yM (a1:List Str) (b1:List Str):Nat→Int→Option Int
 | 0,_=>none
 | bT + 1,i1=>
  if (decide (i1 < (a1.length:Int))) && (decide (i1 < (b1.length:Int))) then
   au (idx a1 i1) fun e1=>
   au (idx b1 i1) fun e2=>
   au (qN e1 e2) fun c1=>
   if c1 != 0 then
    pO (decide (c1 < 0))
   else
    yM a1 b1 bT (bZ (i1 + 1))
  else
   if (a1.length:Int) == (b1.length:Int) then
    some 0
   else
    pO (decide ((a1.length:Int) < (b1.length:Int)))

def JM (a1:List Str) (b1:List Str):Option Int:=
 yM a1 b1 BIG 0

def DL (jv:ah→ah→Option Int) (nN:List ah→List ah→Option Int) (a1:ah) (b1:ah):Option Int:=
 if a1.kind != b1.kind then
  pO (decide (a1.kind < b1.kind))
 else
  if a1.kind == 1 then
   if !(a1.dO == b1.dO) then
    pO b1.dO
   else
    some 0
  else
   if a1.kind == 2 then
    if a1.dI != b1.dI then
     pO (decide (a1.dI < b1.dI))
    else
     some 0
   else
    if a1.kind == 3 then
     if !(a1.bR == b1.bR) then
      pO (Go.Op.bytesLess a1.bR b1.bR)
     else
      some 0
    else
     if a1.kind == 4 then
      nN a1.aO b1.aO
     else
      if a1.kind == 5 then
       au (JM a1.keys b1.keys) fun c1=>
       if c1 != 0 then
        some c1
       else
        nN a1.aO b1.aO
      else
       some 0

def yN (jv:ah→ah→Option Int) (a1:List ah) (b1:List ah):Nat→Int→Option Int
 | 0,_=>none
 | bT + 1,i1=>
  if (decide (i1 < (a1.length:Int))) && (decide (i1 < (b1.length:Int))) then
   au (idx a1 i1) fun e1=>
   au (idx b1 i1) fun e2=>
   au (jv e1 e2) fun c1=>
   if c1 != 0 then
    some c1
   else
    yN jv a1 b1 bT (bZ (i1 + 1))
  else
   if (a1.length:Int) == (b1.length:Int) then
    some 0
   else
    pO (decide ((a1.length:Int) < (b1.length:Int)))

def Iz (jv:ah→ah→Option Int) (nN:List ah→List ah→Option Int) (a1:List ah) (b1:List ah):Option Int:=
 yN jv a1 b1 BIG 0

mutual
def lN :Nat→ah→ah→Option Int
 | 0,_,_=>none
 | k + 1,sF,sD=>DL (lN k) (u_ k) sF sD
def u_ :Nat→List ah→List ah→Option Int
 | 0,_,_=>none
 | k + 1,sF,sD=>Iz (lN k) (u_ k) sF sD
end

def IE (sF:ah) (sD:ah):Option Int:=lN BIG sF sD

def ahe (sF:List ah) (sD:List ah):Option Int:=u_ BIG sF sD

def yP (a1:ah) (b1:ah):Option Bool:=
 au (IE a1 b1) fun x1=>
 some (x1 == 0)

def Fg (kS:aj→aj→Option Bool) (a1:aj) (b1:aj):Nat→Int→Option Bool
 | 0,_=>none
 | KQ + 1,i2=>
  if decide (i2 < (a1.args.length:Int)) then
   au (idx a1.args i2) fun e3=>
   au (idx b1.args i2) fun e4=>
   au (kS e3 e4) fun x2=>
   if !x2 then
    some false
   else
    Fg kS a1 b1 KQ (bZ (i2 + 1))
  else
   some true

def Fh (kS:aj→aj→Option Bool) (a1:aj) (b1:aj):Nat→Int→Option Bool
 | 0,_=>none
 | bT + 1,i1=>
  if decide (i1 < (a1.keys.length:Int)) then
   au (idx a1.keys i1) fun e1=>
   au (idx b1.keys i1) fun e2=>
   if !(e1 == e2) then
    some false
   else
    Fh kS a1 b1 bT (bZ (i1 + 1))
  else
   Fg kS a1 b1 BIG 0

def MK (kS:aj→aj→Option Bool) (a1:aj) (b1:aj):Option Bool:=
 au (
   if (((a1.kind != b1.kind) || (!(a1.name == b1.name))) || ((a1.keys.length:Int) != (b1.keys.length:Int))) || ((a1.args.length:Int) != (b1.args.length:Int)) then
    some true
   else
    au (yP a1.value b1.value) fun x1=>
    some (!x1)) fun b2=>
 if b2 then
  some false
 else
  Fh kS a1 b1 BIG 0

def Ej :Nat→aj→aj→Option Bool
 | 0,_,_=>none
 | k + 1,sF,sD=>MK (Ej k) sF sD

def Zd (sF:aj) (sD:aj):Option Bool:=Ej BIG sF sD

def JC (e1:aj):Option Bool:=
 au MG fun x1=>
 Zd e1 x1

def lZ :Option Bool:=
 fM (mW ([97,108,119,97,121,115,32,124,124,32,110,32,62,32,49]:Str) ([1,2]:List Int)) fun a1 e1=>
 fM (mW ([115,117,99,99,101,115,115]:Str) ([1,2]:List Int)) fun b1 f1=>
 fM (mW ([102,97,105,108,117,114,101,32,38,38,32,33,99,97,110,99,101,108,108,101,100,32,38,38,32,33,115,107,105,112,112,101,100]:Str) ([1,2]:List Int)) fun c1 g1=>
 fM (mW ([49]:Str) []) fun x1 hx1=>
 LH (oW ([115,117,99,99,101,115,115,32,43,32,49]:Str)) fun x2 x3 x4=>
 au nO fun x5=>
 au (je x5 [(aH.mk ([97,108,119,97,121,115]:Str) (ak.mk 2 []))]) fun rV=>
 au (
   if (((((a1 && (e1 == 0)) && (!b1)) && (f1 == 0)) && c1) && (g1 == 0)) && (hx1 == 9) then
    au (je x2 []) fun x6=>
    some (x6 == 9)
   else
    some false) fun b2=>
 au (
   if b2 && (rV == 7) then
    au nO fun x7=>
    JC x7
   else
    some false) fun b3=>
 if b3 then
  au nO fun x9=>
  au (je x9 []) fun wS=>
  some (wS == 0)
 else
  some false

def kH (fE:Int):Option ak:=
 some (ak.mk fE [])

def Df (fE:Int):Option Bool:=
 some ((fE == 5) || (fE == 6))

def kP (fE:Int) (t1:ak):Option ak:=
 some (ak.mk fE [t1])

def Ai (A8:ak→ak→Option ak) (a1:ak) (b1:ak):Option ak:=
 if a1.kind == 7 then
  some b1
 else
  if b1.kind == 7 then
   some a1
  else
   if a1.kind != b1.kind then
    kH 0
   else
    au (Df a1.kind) fun x2=>
    if x2 then
     au (idx a1.elem 0) fun e1=>
     au (idx b1.elem 0) fun e2=>
     au (A8 e1 e2) fun x3=>
     kP a1.kind x3
    else
     some a1

def tZ :Nat→ak→ak→Option ak
 | 0,_,_=>none
 | k + 1,sF,sD=>Ai (tZ k) sF sD

def MN (sF:ak) (sD:ak):Option ak:=tZ BIG sF sD

def JK (wo:ah→Option ak) (v1:ah):Nat→Int→ak→Option ak
 | 0,_,_=>none
 | bT + 1,i1,t1=>
  if decide (i1 < (v1.aO.length:Int)) then
   au (idx v1.aO i1) fun e1=>
   au (wo e1) fun x6=>
   au (MN t1 x6) fun x7=>
   JK wo v1 bT (bZ (i1 + 1)) x7
  else
   if v1.kind == 5 then
    kP 6 t1
   else
    kP 5 t1

def QI (wo:ah→Option ak) (v1:ah):Option ak:=
 if v1.kind == 0 then
  kH 1
 else
  if v1.kind == 1 then
   kH 2
  else
   if v1.kind == 2 then
    kH 3
   else
    if v1.kind == 3 then
     kH 4
    else
     au (kH 7) fun x5=>
     JK wo v1 BIG 0 x5

def Bz :Nat→ah→Option ak
 | 0,_=>none
 | k + 1,qg=>QI (Bz k) qg

def aeB (qg:ah):Option ak:=Bz BIG qg

def MO (v1:ah):Option ak:=
 au (yO v1) fun x1=>
 if x1 != 0 then
  kH 0
 else
  aeB v1

def CX (bG:List aH):Option (List aH):=
 au (kH 2) fun x1=>
 app [(aH.mk ([97,108,119,97,121,115]:Str) x1),(aH.mk ([99,97,110,99,101,108,108,101,100]:Str) x1),(aH.mk ([102,97,105,108,117,114,101]:Str) x1),(aH.mk ([115,107,105,112,112,101,100]:Str) x1),(aH.mk ([115,117,99,99,101,115,115]:Str) x1)] bG

def Iy (zh:ak→Int→Option Int) (t1:ak) (bV:Int):Option Int:=
 if decide (16 < bV) then
  some 13
 else
  if (decide (t1.kind < 0)) || (decide (7 < t1.kind)) then
   some 1
  else
   au (Df t1.kind) fun x1=>
   if !x1 then
    if decide (0 < (t1.elem.length:Int)) then
     some 1
    else
     some 0
   else
    if (t1.elem.length:Int) != 1 then
     some 1
    else
     au (idx t1.elem 0) fun e1=>
     zh e1 (bZ (bV + 1))

def xw :Nat→ak→Int→Option Int
 | 0,_,_=>none
 | k + 1,z_,gu=>Iy (xw k) z_ gu

def Ze (z_:ak) (gu:Int):Option Int:=xw BIG z_ gu

def yL (t1:ak):Option Int:=
 Ze t1 1

def Da (cB:List aH) (i1:Int) (OU:Int→Option Int):Nat→Int→Option Int
 | 0,_=>none
 | KQ + 1,rV=>
  if decide (rV < i1) then
   au (idx cB rV) fun e4=>
   au (idx cB i1) fun e5=>
   if e4.name == e5.name then
    some 7
   else
    Da cB i1 OU KQ (bZ (rV + 1))
  else
   OU (bZ (i1 + 1))

def xu (cB:List aH):Nat→Int→Option Int
 | 0,_=>none
 | bT + 1,i1=>
  if decide (i1 < (cB.length:Int)) then
   au (idx cB i1) fun e1=>
   au (yK e1.name) fun x1=>
   if !x1 then
    some 1
   else
    au (idx cB i1) fun e2=>
    au (yL e2.rY) fun e3=>
    if e3 != 0 then
     some e3
    else
     Da cB i1 (xu cB bT) BIG 0
  else
   some 0

def QH (cB:List aH):Option Int:=
 if decide (1024 < (cB.length:Int)) then
  some 3
 else
  xu cB BIG 0

def JI (e1:aj):Option Bool:=
 if e1.kind == 1 then
  some ((e1.args.length:Int) == 0)
 else
  if e1.kind == 2 then
   some ((e1.args.length:Int) == 0)
  else
   if e1.kind == 3 then
    some ((e1.args.length:Int) == 1)
   else
    if e1.kind == 6 then
     some ((e1.args.length:Int) == 1)
    else
     if e1.kind == 4 then
      some ((e1.args.length:Int) == 2)
     else
      if e1.kind == 7 then
       some ((e1.args.length:Int) == 2)
      else
       if e1.kind == 8 then
        some ((e1.args.length:Int) == 3)
       else
        some (((e1.kind == 5) || (e1.kind == 9)) || (e1.kind == 10))

def Bv (op1:Str):Option Int:=
 if op1 == ([124,124]:Str) then
  some 2
 else
  if op1 == ([38,38]:Str) then
   some 3
  else
   if op1 == ([61,61]:Str) then
    some 4
   else
    if op1 == ([33,61]:Str) then
     some 4
    else
     if op1 == ([60]:Str) then
      some 4
     else
      if op1 == ([60,61]:Str) then
       some 4
      else
       if op1 == ([62]:Str) then
        some 4
       else
        if op1 == ([62,61]:Str) then
         some 4
        else
         if op1 == ([43]:Str) then
          some 5
         else
          if op1 == ([45]:Str) then
           some 5
          else
           if op1 == ([42]:Str) then
            some 6
           else
            if op1 == ([47]:Str) then
             some 6
            else
             if op1 == ([37]:Str) then
              some 6
             else
              some 0

def JH (e1:aj):Option Bool:=
 if e1.kind == 2 then
  yK e1.name
 else
  if e1.kind == 3 then
   yK e1.name
  else
   if e1.kind == 5 then
    yK e1.name
   else
    if e1.kind == 6 then
     some ((e1.name == ([33]:Str)) || (e1.name == ([45]:Str)))
    else
     if e1.kind == 7 then
      au (Bv e1.name) fun x4=>
      some (decide (0 < x4))
     else
      some (e1.name == ([]:Str))

def pQ (mq:ah→ah→Option Bool) (a1:ah) (b1:ah):Nat→Int→Option Bool
 | 0,_=>none
 | KQ + 1,i2=>
  if decide (i2 < (a1.aO.length:Int)) then
   au (idx a1.aO i2) fun e3=>
   au (idx b1.aO i2) fun e4=>
   au (mq e3 e4) fun x1=>
   if !x1 then
    some false
   else
    pQ mq a1 b1 KQ (bZ (i2 + 1))
  else
   some true

def xC (mq:ah→ah→Option Bool) (a1:ah) (b1:ah):Nat→Int→Option Bool
 | 0,_=>none
 | bT + 1,i1=>
  if decide (i1 < (a1.keys.length:Int)) then
   au (idx a1.keys i1) fun e1=>
   au (idx b1.keys i1) fun e2=>
   if !(e1 == e2) then
    some false
   else
    xC mq a1 b1 bT (bZ (i1 + 1))
  else
   pQ mq a1 b1 BIG 0

def Gx (mq:ah→ah→Option Bool) (a1:ah) (b1:ah):Option Bool:=
 if (((((a1.kind != b1.kind) || (!(a1.dO == b1.dO))) || (a1.dI != b1.dI)) || (!(a1.bR == b1.bR))) || ((a1.aO.length:Int) != (b1.aO.length:Int))) || ((a1.keys.length:Int) != (b1.keys.length:Int)) then
  some false
 else
  xC mq a1 b1 BIG 0

def xB :Nat→ah→ah→Option Bool
 | 0,_,_=>none
 | k + 1,sF,sD=>Gx (xB k) sF sD

def Gy (sF:ah) (sD:ah):Option Bool:=xB BIG sF sD

def vZ (e1:aj):Nat→Int→Option Bool
 | 0,_=>none
 | bT + 1,i1=>
  if decide (i1 < (e1.keys.length:Int)) then
   au (idx e1.keys i1) fun e2=>
   au (
     if decide ((e2.length:Int) < 1) then
      some true
     else
      au (idx e1.keys i1) fun e3=>
      some (decide (64 < (e3.length:Int)))) fun b4=>
   if b4 then
    some false
   else
    vZ e1 bT (bZ (i1 + 1))
  else
   some ((e1.keys.length:Int) == (e1.args.length:Int))

def Gw (e1:aj):Option Bool:=
 au (JI e1) fun x1=>
 au (
   if !x1 then
    some true
   else
    au (JH e1) fun x2=>
    some (!x2)) fun b1=>
 au (
   if b1 then
    some true
   else
    if e1.kind != 1 then
     au (Gy e1.value (ah.mk 0 false 0 ([]:Str) [] [])) fun x3=>
     some (!x3)
    else
     some false) fun b2=>
 if b2 then
  some false
 else
  if e1.kind != 10 then
   some ((e1.keys.length:Int) == 0)
  else
   vZ e1 BIG 0

def yJ (Cy:List Str) (i1:Int) (Lp:Int→Option Bool):Nat→Int→Option Bool
 | 0,_=>none
 | KQ + 1,rV=>
  if decide (rV < i1) then
   au (idx Cy i1) fun e1=>
   au (idx Cy rV) fun e2=>
   if e1 == e2 then
    some true
   else
    yJ Cy i1 Lp KQ (bZ (rV + 1))
  else
   Lp (bZ (i1 + 1))

def sN (Cy:List Str):Nat→Int→Option Bool
 | 0,_=>none
 | bT + 1,i1=>
  if decide (i1 < (Cy.length:Int)) then
   yJ Cy i1 (sN Cy bT) BIG 0
  else
   some false

def JG (Cy:List Str):Option Bool:=
 sN Cy BIG 0

def Bu (o7:aj→Int→Option Int) (e1:aj) (bV:Int):Nat→Int→Option Int
 | 0,_=>none
 | bT + 1,i1=>
  if decide (i1 < (e1.args.length:Int)) then
   au (idx e1.args i1) fun e2=>
   au (o7 e2 (bZ (bV + 1))) fun f2=>
   if f2 != 0 then
    some f2
   else
    Bu o7 e1 bV bT (bZ (i1 + 1))
  else
   some 0

def Iu (o7:aj→Int→Option Int) (e1:aj) (bV:Int):Option Int:=
 if decide (16 < bV) then
  some 13
 else
  au (Gw e1) fun x1=>
  if !x1 then
   some 1
  else
   au (yO e1.value) fun f1=>
   if (e1.kind == 1) && (f1 != 0) then
    some f1
   else
    if decide (1024 < (e1.args.length:Int)) then
     some 3
    else
     au (JG e1.keys) fun x2=>
     if x2 then
      some 7
     else
      Bu o7 e1 bV BIG 0

def sO :Nat→aj→Int→Option Int
 | 0,_,_=>none
 | k + 1,iY,gu=>Iu (sO k) iY gu

def R5 (iY:aj) (gu:Int):Option Int:=sO BIG iY gu

def F6 (e1:aj):Option Int:=
 au (JJ e1) fun x1=>
 if decide (4096 < x1) then
  some 15
 else
  R5 e1 1

def AB (e1:aj) (cB:List aH):Nat→Int→Option (ak × Int)
 | 0,_=>none
 | bT + 1,i1=>
  if decide (i1 < (cB.length:Int)) then
   au (idx cB i1) fun e2=>
   if e2.name == e1.name then
    au (idx cB i1) fun e3=>
    some (e3.rY,0)
   else
    AB e1 cB bT (bZ (i1 + 1))
  else
   some ((ak.mk 0 []),10)

def Br (e1:aj) (cB:List aH):Option (ak × Int):=
 if e1.kind == 1 then
  au (MO e1.value) fun x1=>
  some (x1,0)
 else
  AB e1 cB BIG 0

def rE (name1:Str):Option Int:=
 if name1 == ([108,101,110]:Str) then
  some 1
 else
  if name1 == ([108,111,119,101,114]:Str) then
   some 1
  else
   if name1 == ([117,112,112,101,114]:Str) then
    some 1
   else
    if name1 == ([115,116,114,105,110,103]:Str) then
     some 1
    else
     if name1 == ([105,110,116]:Str) then
      some 1
     else
      if name1 == ([107,101,121,115]:Str) then
       some 1
      else
       if name1 == ([99,111,110,116,97,105,110,115]:Str) then
        some 2
       else
        if name1 == ([106,111,105,110]:Str) then
         some 2
        else
         if name1 == ([115,112,108,105,116]:Str) then
          some 2
         else
          if name1 == ([115,116,97,114,116,115,119,105,116,104]:Str) then
           some 2
          else
           if name1 == ([101,110,100,115,119,105,116,104]:Str) then
            some 2
           else
            if name1 == ([100,101,102,97,117,108,116]:Str) then
             some 2
            else
             some (-1)

def iI (t1:ak):Option Bool:=
 some ((t1.kind == 0) || (t1.kind == 7))

def gL (fE:Int):Option ak:=
 kH fE

def oH (pX:ak→ak→Option Bool) (t1:ak) (u1:ak):Option Bool:=
 au (iI t1) fun x1=>
 if x1 || (u1.kind == 0) then
  some true
 else
  if t1.kind != u1.kind then
   some false
  else
   if (t1.elem.length:Int) == 0 then
    some true
   else
    au (idx t1.elem 0) fun e1=>
    au (idx u1.elem 0) fun e2=>
    pX e1 e2

def kG :Nat→ak→ak→Option Bool
 | 0,_,_=>none
 | k + 1,z_,Uf=>oH (kG k) z_ Uf

def fV (z_:ak) (Uf:ak):Option Bool:=kG BIG z_ Uf

def ig (t1:ak) (fE:Int):Option Bool:=
 au (gL fE) fun x1=>
 fV t1 x1

def JF (a1:ak) (b1:ak):Option (ak × Bool):=
 if a1.kind == 5 then
  au (idx a1.elem 0) fun e1=>
  au (ig b1 3) fun x1=>
  some (e1,x1)
 else
  if a1.kind == 6 then
   au (idx a1.elem 0) fun e2=>
   au (ig b1 4) fun x2=>
   some (e2,x2)
  else
   au (iI a1) fun x3=>
   au (
     if x3 then
      au (ig b1 3) fun x4=>
      if x4 then
       some true
      else
       ig b1 4
     else
      some false) fun b2=>
   some (a1,b2)

def C9 (fE:Int):Option ak:=
 au (gL 0) fun x1=>
 kP fE x1

def gY (name1:Str) (l1:List ak):Option (ak × Bool):=
 au (gL 4) fun x1=>
 if name1 == ([108,101,110]:Str) then
  au (gL 3) fun x2=>
  au (idx l1 0) fun e1=>
  au (ig e1 4) fun x3=>
  au (
    if x3 then
     some true
    else
     au (idx l1 0) fun e2=>
     au (C9 5) fun x4=>
     fV e2 x4) fun b1=>
  au (
    if b1 then
     some true
    else
     au (idx l1 0) fun e3=>
     au (C9 6) fun x6=>
     fV e3 x6) fun b2=>
  some (x2,b2)
 else
  if name1 == ([99,111,110,116,97,105,110,115]:Str) then
   au (gL 2) fun x8=>
   au (idx l1 0) fun e4=>
   au (C9 5) fun x9=>
   au (fV e4 x9) fun wS=>
   au (
     if wS then
      some true
     else
      au (idx l1 1) fun e5=>
      au (ig e5 4) fun H8=>
      if H8 then
       au (idx l1 0) fun e6=>
       au (ig e6 4) fun LQ=>
       if LQ then
        some true
       else
        au (idx l1 0) fun e7=>
        au (C9 6) fun Mg=>
        fV e7 Mg
      else
       some false) fun b3=>
   some (x8,b3)
  else
   if name1 == ([106,111,105,110]:Str) then
    au (idx l1 0) fun e8=>
    au (kP 5 x1) fun RO=>
    au (fV e8 RO) fun LP=>
    au (
      if LP then
       au (idx l1 1) fun e9=>
       ig e9 4
      else
       some false) fun b6=>
    some (x1,b6)
   else
    if name1 == ([115,112,108,105,116]:Str) then
     au (kP 5 x1) fun y8=>
     au (idx l1 0) fun e10=>
     au (ig e10 4) fun y9=>
     au (
       if y9 then
        au (idx l1 1) fun e11=>
        ig e11 4
       else
        some false) fun b7=>
     some (y8,b7)
    else
     if name1 == ([108,111,119,101,114]:Str) then
      au (idx l1 0) fun e12=>
      au (ig e12 4) fun x21=>
      some (x1,x21)
     else
      if name1 == ([117,112,112,101,114]:Str) then
       au (idx l1 0) fun e13=>
       au (ig e13 4) fun x22=>
       some (x1,x22)
      else
       if name1 == ([115,116,97,114,116,115,119,105,116,104]:Str) then
        au (gL 2) fun x23=>
        au (idx l1 0) fun e14=>
        au (ig e14 4) fun x24=>
        au (
          if x24 then
           au (idx l1 1) fun e15=>
           ig e15 4
          else
           some false) fun b8=>
        some (x23,b8)
       else
        if name1 == ([101,110,100,115,119,105,116,104]:Str) then
         au (gL 2) fun x26=>
         au (idx l1 0) fun e16=>
         au (ig e16 4) fun x27=>
         au (
           if x27 then
            au (idx l1 1) fun e17=>
            ig e17 4
           else
            some false) fun b9=>
         some (x26,b9)
        else
         if name1 == ([115,116,114,105,110,103]:Str) then
          au (idx l1 0) fun e18=>
          au (
            if e18.kind != 5 then
             au (idx l1 0) fun e19=>
             some (e19.kind != 6)
            else
             some false) fun b10=>
          some (x1,b10)
         else
          if name1 == ([105,110,116]:Str) then
           au (gL 3) fun x29=>
           au (idx l1 0) fun e20=>
           au (ig e20 4) fun x30=>
           some (x29,x30)
          else
           if name1 == ([107,101,121,115]:Str) then
            au (kP 5 x1) fun x31=>
            au (idx l1 0) fun e21=>
            au (C9 6) fun x32=>
            au (fV e21 x32) fun x33=>
            some (x31,x33)
           else
            au (idx l1 0) fun e22=>
            if e22.kind == 1 then
             au (idx l1 1) fun e23=>
             some (e23,true)
            else
             au (idx l1 0) fun e24=>
             some (e24,true)

def rD (a1:ak) (b1:ak):Option Int:=
 au (iI a1) fun x1=>
 if x1 then
  some b1.kind
 else
  au (iI b1) fun x2=>
  if x2 || (a1.kind == b1.kind) then
   some a1.kind
  else
   some (-1)

def AJ (t1:ak):Option ak:=
 au (iI t1) fun x1=>
 if x1 then
  some t1
 else
  idx t1.elem 0

def QJ (a1:ak) (b1:ak):Option Bool:=
 au (yL a1) fun x1=>
 if x1 == 0 then
  au (yL b1) fun x2=>
  some (x2 == 0)
 else
  some false

def BA (a1:ak) (b1:ak):Option ak:=
 au (QJ a1 b1) fun x1=>
 if !x1 then
  kH 0
 else
  MN a1 b1

def Ir (a1:ak) (b1:ak):Option (ak × Bool):=
 au (iI a1) fun x1=>
 au (
   if x1 then
    iI b1
   else
    some false) fun b2=>
 if b2 then
  if a1.kind == 0 then
   some (a1,true)
  else
   some (b1,true)
 else
  au (rD a1 b1) fun rV=>
  if rV == 5 then
   au (AJ a1) fun x3=>
   au (AJ b1) fun x4=>
   au (BA x3 x4) fun x5=>
   au (kP rV x5) fun x6=>
   some (x6,true)
  else
   au (gL rV) fun x7=>
   some (x7,((rV == 3) || (rV == 4)))

def nJ (op1:Str) (a1:ak) (b1:ak):Option (ak × Bool):=
 if op1 == ([38,38]:Str) then
  au (gL 2) fun x1=>
  au (ig a1 2) fun x2=>
  au (
    if x2 then
     ig b1 2
    else
     some false) fun b2=>
  some (x1,b2)
 else
  if op1 == ([124,124]:Str) then
   au (gL 2) fun x4=>
   au (ig a1 2) fun x5=>
   au (
     if x5 then
      ig b1 2
     else
      some false) fun b3=>
   some (x4,b3)
  else
   if op1 == ([61,61]:Str) then
    au (gL 2) fun x7=>
    some (x7,true)
   else
    if op1 == ([33,61]:Str) then
     au (gL 2) fun x8=>
     some (x8,true)
    else
     if op1 == ([60]:Str) then
      au (rD a1 b1) fun rV=>
      au (gL 2) fun x9=>
      au (iI a1) fun wS=>
      au (
        if wS then
         iI b1
        else
         some false) fun b4=>
      some (x9,((b4 || (rV == 3)) || (rV == 4)))
     else
      if op1 == ([60,61]:Str) then
       au (rD a1 b1) fun kx2=>
       au (gL 2) fun LQ=>
       au (iI a1) fun Mg=>
       au (
         if Mg then
          iI b1
         else
          some false) fun b5=>
       some (LQ,((b5 || (kx2 == 3)) || (kx2 == 4)))
      else
       if op1 == ([62]:Str) then
        au (rD a1 b1) fun kx3=>
        au (gL 2) fun RO=>
        au (iI a1) fun LP=>
        au (
          if LP then
           iI b1
          else
           some false) fun b6=>
        some (RO,((b6 || (kx3 == 3)) || (kx3 == 4)))
       else
        if op1 == ([62,61]:Str) then
         au (rD a1 b1) fun kx4=>
         au (gL 2) fun y8=>
         au (iI a1) fun y9=>
         au (
           if y9 then
            iI b1
           else
            some false) fun b7=>
         some (y8,((b7 || (kx4 == 3)) || (kx4 == 4)))
        else
         if op1 == ([43]:Str) then
          Ir a1 b1
         else
          au (gL 3) fun x23=>
          au (ig a1 3) fun x24=>
          au (
            if x24 then
             ig b1 3
            else
             some false) fun b8=>
          some (x23,b8)

def Ei (e1:aj) (l1:List ak):Nat→Int→ak→Option (ak × Bool)
 | 0,_,_=>none
 | bT + 1,i1,t1=>
  if decide (i1 < (l1.length:Int)) then
   au (idx l1 i1) fun e16=>
   au (BA t1 e16) fun RO=>
   Ei e1 l1 bT (bZ (i1 + 1)) RO
  else
   if e1.kind == 10 then
    au (kP 6 t1) fun LP=>
    some (LP,true)
   else
    au (kP 5 t1) fun XD=>
    some (XD,true)

def gN (e1:aj) (l1:List ak):Option (ak × Bool):=
 if e1.kind == 3 then
  au (idx l1 0) fun e2=>
  if e2.kind == 6 then
   au (idx l1 0) fun e3=>
   au (idx e3.elem 0) fun e4=>
   some (e4,true)
  else
   au (idx l1 0) fun e5=>
   au (idx l1 0) fun e6=>
   au (iI e6) fun x1=>
   some (e5,x1)
 else
  if e1.kind == 4 then
   au (idx l1 0) fun e7=>
   au (idx l1 1) fun e8=>
   JF e7 e8
  else
   if e1.kind == 5 then
    gY e1.name l1
   else
    if e1.kind == 6 then
     if e1.name == ([33]:Str) then
      au (gL 2) fun x6=>
      au (idx l1 0) fun e9=>
      au (ig e9 2) fun x7=>
      some (x6,x7)
     else
      au (gL 3) fun x8=>
      au (idx l1 0) fun e10=>
      au (ig e10 3) fun x9=>
      some (x8,x9)
    else
     if e1.kind == 7 then
      au (idx l1 0) fun e11=>
      au (idx l1 1) fun e12=>
      nJ e1.name e11 e12
     else
      if e1.kind == 8 then
       au (idx l1 1) fun e13=>
       au (idx l1 2) fun e14=>
       au (BA e13 e14) fun LQ=>
       au (idx l1 0) fun e15=>
       au (ig e15 2) fun Mg=>
       some (LQ,Mg)
      else
       au (gL 7) fun RP=>
       Ei e1 l1 BIG 0 RP

def sM (qP:aj→List aH→Option (ak × Int)) (e1:aj) (cB:List aH):Nat→List ak→Int→Option (ak × Int)
 | 0,_,_=>none
 | bT + 1,l1,i1=>
  if decide (i1 < (e1.args.length:Int)) then
   au (idx e1.args i1) fun e2=>
   fM (qP e2 cB) fun x5 f1=>
   if f1 != 0 then
    some ((ak.mk 0 []),f1)
   else
    au (app l1 [x5]) fun l2=>
    sM qP e1 cB bT l2 (bZ (i1 + 1))
  else
   fM (gN e1 l1) fun x6 ok1=>
   if !ok1 then
    some ((ak.mk 0 []),9)
   else
    au (yL x6) fun x7=>
    if x7 != 0 then
     some ((ak.mk 0 []),13)
    else
     some (x6,0)

def Ah (qP:aj→List aH→Option (ak × Int)) (e1:aj) (cB:List aH):Option (ak × Int):=
 if (e1.kind == 1) || (e1.kind == 2) then
  Br e1 cB
 else
  au (
    if e1.kind == 5 then
     au (rE e1.name) fun x3=>
     some (decide (x3 < 0))
    else
     some false) fun b1=>
  if b1 then
   some ((ak.mk 0 []),10)
  else
   au (
     if e1.kind == 5 then
      au (rE e1.name) fun x4=>
      some (x4 != (e1.args.length:Int))
     else
      some false) fun b2=>
   if b2 then
    some ((ak.mk 0 []),1)
   else
    sM qP e1 cB BIG [] 0

def jM :Nat→aj→List aH→Option (ak × Int)
 | 0,_,_=>none
 | k + 1,iY,eU=>Ah (jM k) iY eU

def pK (iY:aj) (eU:List aH):Option (ak × Int):=jM BIG iY eU

def Bt (e1:aj) (cB:List aH):Option (ak × Int):=
 au (QH cB) fun f1=>
 if f1 != 0 then
  some ((ak.mk 0 []),f1)
 else
  au (F6 e1) fun f2=>
  if f2 != 0 then
   some ((ak.mk 0 []),f2)
  else
   pK e1 cB

def Gv (AZ:ak→Option Bool) (t1:ak):Option Bool:=
 if t1.kind != 0 then
  if (t1.elem.length:Int) == 0 then
   some true
  else
   au (idx t1.elem 0) fun e1=>
   AZ e1
 else
  some false

def xq :Nat→ak→Option Bool
 | 0,_=>none
 | k + 1,z_=>Gv (xq k) z_

def QG (z_:ak):Option Bool:=xq BIG z_

def zM (nE:aj→List aH→Option Bool) (e1:aj) (cB:List aH):Nat→Int→Option Bool
 | 0,_=>none
 | bT + 1,i1=>
  if decide (i1 < (e1.args.length:Int)) then
   au (idx e1.args i1) fun e2=>
   au (nE e2 cB) fun x3=>
   if !x3 then
    some false
   else
    zM nE e1 cB bT (bZ (i1 + 1))
  else
   some true

def Fe (nE:aj→List aH→Option Bool) (e1:aj) (cB:List aH):Option Bool:=
 fM (pK e1 cB) fun x1 f1=>
 au (
   if f1 != 0 then
    some true
   else
    au (QG x1) fun x2=>
    some (!x2)) fun b1=>
 if b1 then
  some false
 else
  zM nE e1 cB BIG 0

def qF :Nat→aj→List aH→Option Bool
 | 0,_,_=>none
 | k + 1,iY,eU=>Fe (qF k) iY eU

def Pj (iY:aj) (eU:List aH):Option Bool:=qF BIG iY eU

def C_ (e1:aj) (cB:List aH):Option Bool:=
 fM (Bt e1 cB) fun x1 f1=>
 if f1 == 0 then
  Pj e1 cB
 else
  some false

def ow (fD:aj) (bC:List Int) (bG:List aA):Nat→List aH→Int→Option Bool
 | 0,_,_=>none
 | bT + 1,l1,i1=>
  if decide (i1 < (bG.length:Int)) then
   au (idx bG i1) fun e1=>
   au (idx bG i1) fun e2=>
   au (MO e2.value) fun x5=>
   au (app l1 [(aH.mk e1.name x5)]) fun l2=>
   ow fD bC bG bT l2 (bZ (i1 + 1))
  else
   au (je fD l1) fun x6=>
   if x6 != 0 then
    lZ
   else
    fM (jO fD bC bG) fun x8 e3=>
    au (
      if e3 != 10 then
       if e3 != 9 then
        some true
       else
        au (CX l1) fun x9=>
        au (C_ fD x9) fun wS=>
        some (!wS)
      else
       some false) fun b2=>
    if b2 then
     lZ
    else
     some false

def vF (fD:aj) (bC:List Int) (bG:List aA):Option Bool:=
 au (yX fD (bZ ((bC.length:Int) + (bG.length:Int)))) fun x1=>
 au (
   if !x1 then
    some true
   else
    au (Kr bC bG) fun x2=>
    au (N_ x2) fun x3=>
    some (x3 != 0)) fun b1=>
 if b1 then
  lZ
 else
  ow fD bC bG BIG [] 0
end Go.Ft
