/- Proved here: nothing: the functional texts of the functions that the statements reach, as our program wrote them. -/
import Derived.Test.YtangbjfgdmopoaaGreatDoorCsWords
set_option linter.unusedVariables false
set_option linter.unusedSimpArgs false
set_option linter.unusedSectionVars false
namespace Go.Ft
open Go
structure ah where
 kind:Int
 dh:Bool
 bZ:Int
 bI:Str
 aI:List ah
 keys:List Str
structure aj where
 kind:Int
 name:Str
 value:ah
 args:List aj
 keys:List Str
structure av where
 name:Str
 value:ah
structure aX where
 kind:Int
 text:Str
 at_:Int
 deriving DecidableEq
structure ak where
 ts:List aX
 at_:Int
 deriving DecidableEq
structure aA where
 at_:Int
 code:Int
 deriving DecidableEq
structure b_ where
 kind:Int
 elem:List b_
structure qE where
 name:Str
 LK:b_
structure aD where
 code:Int
 deriving DecidableEq
structure jo where
 half:List (BitVec 64)
 neg:Bool
 deriving DecidableEq
structure asl where
 x:Int
 y:Int
 signed:Bool
 code:UInt8
 deriving DecidableEq
structure D8 where
 x:Int
 y:Int
 signed:Bool
 code:UInt8
 deriving DecidableEq
structure asj where
 msg:Str
 addr:BitVec 64
 deriving DecidableEq
structure vU where
 msg:Str
 addr:BitVec 64
 deriving DecidableEq
structure asi where
 kind:Int
 dh:Bool
 bZ:Int
 bI:Str
 aI:List ah
 keys:List Str
structure ae1 where
 kind:Int
 name:Str
 value:ah
 args:List aj
 keys:List Str
structure ae0 where
 kind:Int
 elem:List b_
structure aeZ where
 name:Str
 value:ah
structure aeY where
 name:Str
 LK:b_
structure aeX where
 code:Int
 deriving DecidableEq
structure aeW where
 kind:Int
 text:Str
 at_:Int
 deriving DecidableEq
structure aeV where
 ts:List aX
 at_:Int
 deriving DecidableEq
structure aeU where
 at_:Int
 code:Int
 deriving DecidableEq
structure avU where
 half:List (BitVec 64)
 neg:Bool
 deriving DecidableEq
structure alc where
 func:Str
 num:Str
 err:Option Nat
structure acW where
 func:Str
 num:Str
 err:Option Nat
structure alb where
 s:Str
 deriving DecidableEq
structure E5 where
 s:Str
 deriving DecidableEq
structure aeR where
 lo:UInt8
 hi:UInt8
 deriving DecidableEq
structure H_ where
 lo:UInt8
 hi:UInt8
 deriving DecidableEq

mutual
def ah.bulk :ah→Nat
 | ⟨a0,a1,a2,a3,a4,a5⟩=>1 + 1 + 1 + (a3.length + 1) + (ah.lZ a4 + 1) + ((List.map (fun z:Str=>(z.length + 1)) a5).sum + 1) + 1
def ah.lZ :List ah→Nat
 | []=>0
 | x :: xs=>ah.bulk x + ah.lZ xs
end
theorem ah.iN :∀ l:List ah,ah.lZ l=(l.map ah.bulk).sum
 | []=>rfl
 | x :: l=>by simp only [ah.lZ,List.map_cons,List.sum_cons,ah.iN l]
theorem ah.iC (x:ah):ah.bulk x=1 + 1 + 1 + (x.bI.length + 1) + (ah.lZ x.aI + 1) + ((List.map (fun z:Str=>(z.length + 1)) x.keys).sum + 1) + 1:=by cases x; rfl
mutual
def aj.bulk :aj→Nat
 | ⟨a0,a1,a2,a3,a4⟩=>1 + (a1.length + 1) + (ah.bulk a2) + (aj.lZ a3 + 1) + ((List.map (fun z:Str=>(z.length + 1)) a4).sum + 1) + 1
def aj.lZ :List aj→Nat
 | []=>0
 | x :: xs=>aj.bulk x + aj.lZ xs
end
theorem aj.iN :∀ l:List aj,aj.lZ l=(l.map aj.bulk).sum
 | []=>rfl
 | x :: l=>by simp only [aj.lZ,List.map_cons,List.sum_cons,aj.iN l]
theorem aj.iC (x:aj):aj.bulk x=1 + (x.name.length + 1) + (ah.bulk x.value) + (aj.lZ x.args + 1) + ((List.map (fun z:Str=>(z.length + 1)) x.keys).sum + 1) + 1:=by cases x; rfl
def av.bulk (x:av):Nat:=(x.name.length + 1) + (ah.bulk x.value) + 1
def aX.bulk (x:aX):Nat:=1 + (x.text.length + 1) + 1 + 1
def ak.bulk (x:ak):Nat:=((List.map (fun z:aX=>(aX.bulk z)) x.ts).sum + 1) + 1 + 1
def aA.bulk (x:aA):Nat:=1 + 1 + 1
mutual
def b_.bulk :b_→Nat
 | ⟨a0,a1⟩=>1 + (b_.lZ a1 + 1) + 1
def b_.lZ :List b_→Nat
 | []=>0
 | x :: xs=>b_.bulk x + b_.lZ xs
end
theorem b_.iN :∀ l:List b_,b_.lZ l=(l.map b_.bulk).sum
 | []=>rfl
 | x :: l=>by simp only [b_.lZ,List.map_cons,List.sum_cons,b_.iN l]
theorem b_.iC (x:b_):b_.bulk x=1 + (b_.lZ x.elem + 1) + 1:=by cases x; rfl
def qE.bulk (x:qE):Nat:=(x.name.length + 1) + (b_.bulk x.LK) + 1
def aD.bulk (x:aD):Nat:=1 + 1
def asl.bulk (x:asl):Nat:=1 + 1 + 1 + 1 + 1
def D8.bulk (x:D8):Nat:=1 + 1 + 1 + 1 + 1
def asj.bulk (x:asj):Nat:=(x.msg.length + 1) + 1 + 1
def vU.bulk (x:vU):Nat:=(x.msg.length + 1) + 1 + 1
def asi.bulk (x:asi):Nat:=1 + 1 + 1 + (x.bI.length + 1) + (ah.lZ x.aI + 1) + ((List.map (fun z:Str=>(z.length + 1)) x.keys).sum + 1) + 1
def ae1.bulk (x:ae1):Nat:=1 + (x.name.length + 1) + (ah.bulk x.value) + (aj.lZ x.args + 1) + ((List.map (fun z:Str=>(z.length + 1)) x.keys).sum + 1) + 1
def ae0.bulk (x:ae0):Nat:=1 + (b_.lZ x.elem + 1) + 1
def aeZ.bulk (x:aeZ):Nat:=(x.name.length + 1) + (ah.bulk x.value) + 1
def aeY.bulk (x:aeY):Nat:=(x.name.length + 1) + (b_.bulk x.LK) + 1
def aeX.bulk (x:aeX):Nat:=1 + 1
def aeW.bulk (x:aeW):Nat:=1 + (x.text.length + 1) + 1 + 1
def aeV.bulk (x:aeV):Nat:=((List.map (fun z:aX=>(aX.bulk z)) x.ts).sum + 1) + 1 + 1
def aeU.bulk (x:aeU):Nat:=1 + 1 + 1
def alb.bulk (x:alb):Nat:=(x.s.length + 1) + 1
def E5.bulk (x:E5):Nat:=(x.s.length + 1) + 1
def aeR.bulk (x:aeR):Nat:=1 + 1 + 1
def H_.bulk (x:H_):Nat:=1 + 1 + 1

def yH (mJ:aj→Option Int) (e1:aj):Nat→Int→Int→Option Int
 | 0,_,_=>none
 | bW + 1,n1,i1=>
  if decide (i1 < (e1.args.length:Int)) then
   au (idx e1.args i1) fun e2=>
   au (mJ e2) fun x1=>
   yH mJ e1 bW (bS (n1 + x1)) (bS (i1 + 1))
  else
   some n1

def Ep (mJ:aj→Option Int) (e1:aj):Option Int:=
 yH mJ e1 BIG 1 0

def pU :Nat→aj→Option Int
 | 0,_=>none
 | k + 1,fV=>Ep (pU k) fV

def FQ (fV:aj):Option Int:=pU BIG fV

def amH (e1:aj) (n1:Int):Option Bool:=
 au (FQ e1) fun x1=>
 some ((decide (x1≤5000)) && (decide (n1≤300)))

def Gs (c1:UInt8):Option Bool:=
 some ((((decide (97≤(c1.toNat:Int))) && (decide ((c1.toNat:Int)≤122))) || ((decide (65≤(c1.toNat:Int))) && (decide ((c1.toNat:Int)≤90)))) || ((c1.toNat:Int) == 95))

def zU (c1:UInt8):Option Bool:=
 some ((decide (48≤(c1.toNat:Int))) && (decide ((c1.toNat:Int)≤57)))

def Bw (s1:Str):Nat→Int→Option Bool
 | 0,_=>none
 | bW + 1,i1=>
  if decide (i1 < (s1.length:Int)) then
   au (idx s1 i1) fun x1=>
   au (Gs x1) fun x2=>
   au (
     if !x2 then
      if i1 == 0 then
       some true
      else
       au (idx s1 i1) fun x3=>
       au (zU x3) fun x4=>
       some (!x4)
     else
      some false) fun b1=>
   if b1 then
    some false
   else
    Bw s1 bW (bS (i1 + 1))
  else
   some ((decide (1≤(s1.length:Int))) && (decide ((s1.length:Int)≤64)))

def IU (s1:Str):Option Bool:=
 Bw s1 BIG 0

def xG (s1:Str):Option Bool:=
 au (IU s1) fun x1=>
 some (((x1 && (!(s1 == ([116,114,117,101]:Str)))) && (!(s1 == ([102,97,108,115,101]:Str)))) && (!(s1 == ([110,117,108,108]:Str))))

def FR (v1:ah):Option Bool:=
 if ((v1.dh && (v1.kind != 1)) || ((v1.bZ != 0) && (v1.kind != 2))) || ((!(v1.bI == ([]:Str))) && (v1.kind != 3)) then
  some false
 else
  if ((decide (0 < (v1.aI.length:Int))) && (v1.kind != 4)) && (v1.kind != 5) then
   some false
  else
   some (((v1.keys.length:Int) == 0) || (v1.kind == 5))

def J3 (s1:Str):Option Bool:=
 some ((decide (1≤(s1.length:Int))) && (decide ((s1.length:Int)≤64)))

def vF (Kt:Bool) (Mr:Bool):Option Int:=
 if Kt then
  some (-1)
 else
  if Mr then
   some 1
  else
   some 0

def CY (c1:UInt8):Option Bool:=
 some ((decide (48≤(c1.toNat:Int))) && (decide ((c1.toNat:Int)≤57)))

def Dn (s1:Str):Nat→Int→Option Int
 | 0,_=>none
 | bW + 1,at2=>
  au (
    if decide (at2 < (s1.length:Int)) then
     au (idx s1 at2) fun x1=>
     CY x1
    else
     some false) fun b1=>
  if b1 then
   Dn s1 bW (bS (at2 + 1))
  else
   some at2

def L9 (s1:Str) (jI:Int):Option Int:=
 Dn s1 BIG jI

def vE (s1:Str):Nat→Int→Option Str
 | 0,_=>none
 | bW + 1,i1=>
  au (
    if decide (i1 < (s1.length:Int)) then
     au (idx s1 i1) fun x1=>
     some ((x1.toNat:Int) == 48)
    else
     some false) fun b1=>
  if b1 then
   vE s1 bW (bS (i1 + 1))
  else
   sl s1 i1 (s1.length:Int)

def CX (s1:Str):Option Str:=
 vE s1 BIG 0

def IY (a1:Str) (b1:Str):Option Int:=
 au (CX a1) fun x1=>
 au (CX b1) fun y1=>
 if (x1.length:Int) != (y1.length:Int) then
  vF (decide ((x1.length:Int) < (y1.length:Int))) (decide ((y1.length:Int) < (x1.length:Int)))
 else
  if !(x1 == y1) then
   vF (Go.Op.bytesLess x1 y1) (!(Go.Op.bytesLess x1 y1 || x1 == y1))
  else
   vF (decide ((a1.length:Int) < (b1.length:Int))) (decide ((b1.length:Int) < (a1.length:Int)))

def mZ (a1:Str) (b1:Str):Nat→Int→Int→Option Int
 | 0,_,_=>none
 | bW + 1,i1,xO=>
  if (decide (i1 < (a1.length:Int))) && (decide (xO < (b1.length:Int))) then
   au (idx a1 i1) fun x1=>
   au (idx b1 xO) fun x2=>
   au (idx a1 i1) fun x3=>
   au (idx b1 xO) fun x4=>
   au (vF (decide ((x1.toNat:Int) < (x2.toNat:Int))) (decide ((x4.toNat:Int) < (x3.toNat:Int)))) fun c1=>
   au (idx a1 i1) fun x5=>
   au (CY x5) fun x6=>
   au (
     if x6 then
      au (idx b1 xO) fun x7=>
      CY x7
     else
      some false) fun b2=>
   if b2 then
    au (L9 a1 i1) fun m1=>
    au (L9 b1 xO) fun n1=>
    au (sl a1 i1 m1) fun x9=>
    au (sl b1 xO n1) fun CO=>
    au (IY x9 CO) fun c2=>
    if c2 != 0 then
     some c2
    else
     mZ a1 b1 bW m1 n1
   else
    if c1 != 0 then
     some c1
    else
     mZ a1 b1 bW (bS (i1 + 1)) (bS (xO + 1))
  else
   vF (decide (xO < (b1.length:Int))) (decide (i1 < (a1.length:Int)))

def m_ (a1:Str) (b1:Str):Option Int:=
 mZ a1 b1 BIG 0 0

def ow (v1:ah):Nat→Int→Option Bool
 | 0,_=>none
 | bW + 1,i1=>
  if decide (i1 < (v1.keys.length:Int)) then
   au (idx v1.keys i1) fun e1=>
   au (J3 e1) fun x1=>
   au (
     if !x1 then
      some true
     else
      if decide (0 < i1) then
       au (idx v1.keys (bS (i1 - 1))) fun e2=>
       au (idx v1.keys i1) fun e3=>
       au (m_ e2 e3) fun x2=>
       some (decide (0≤x2))
      else
       some false) fun b1=>
   if b1 then
    some false
   else
    ow v1 bW (bS (i1 + 1))
  else
   some ((v1.keys.length:Int) == (v1.aI.length:Int))

def wB (v1:ah):Option Bool:=
 ow v1 BIG 0

def yI (mK:ah→Int→Option Int) (v1:ah) (bP:Int):Nat→Int→Option Int
 | 0,_=>none
 | bW + 1,i1=>
  if decide (i1 < (v1.aI.length:Int)) then
   au (idx v1.aI i1) fun e1=>
   au (mK e1 (bS (bP + 1))) fun e2=>
   if e2 != 0 then
    some e2
   else
    yI mK v1 bP bW (bS (i1 + 1))
  else
   some 0

def Et (mK:ah→Int→Option Int) (v1:ah) (bP:Int):Option Int:=
 if decide (16 < bP) then
  some 13
 else
  au (
    if (decide (v1.kind < 0)) || (decide (5 < v1.kind)) then
     some true
    else
     au (FR v1) fun x1=>
     some (!x1)) fun b1=>
  if b1 then
   some 1
  else
   if (decide (v1.bZ < (-9007199254740992))) || (decide (9007199254740992 < v1.bZ)) then
    some 2
   else
    if ((decide (4096 < (v1.bI.length:Int))) || (decide (1024 < (v1.aI.length:Int)))) || (decide (1024 < (v1.keys.length:Int))) then
     some 3
    else
     au (
       if v1.kind == 5 then
        au (wB v1) fun x2=>
        some (!x2)
       else
        some false) fun b2=>
     if b2 then
      some 1
     else
      if ((decide (4≤v1.kind)) && ((v1.aI.length:Int) == 0)) && (bP == 16) then
       some 13
      else
       yI mK v1 bP BIG 0

def pV :Nat→ah→Int→Option Int
 | 0,_,_=>none
 | k + 1,rZ,gI=>Et (pV k) rZ gI

def Ng (rZ:ah) (gI:Int):Option Int:=pV BIG rZ gI

def xH (v1:ah):Option Int:=
 Ng v1 1

def zT (bK:List av) (i1:Int) (Kv:Int→Option Int):Nat→Int→Option Int
 | 0,_=>none
 | EB + 1,xO=>
  if decide (xO < i1) then
   au (idx bK xO) fun e4=>
   au (idx bK i1) fun e5=>
   if e4.name == e5.name then
    some 7
   else
    zT bK i1 Kv EB (bS (xO + 1))
  else
   Kv (bS (i1 + 1))

def uy (bK:List av):Nat→Int→Option Int
 | 0,_=>none
 | bW + 1,i1=>
  if decide (i1 < (bK.length:Int)) then
   au (idx bK i1) fun e1=>
   au (xG e1.name) fun x1=>
   if !x1 then
    some 1
   else
    au (idx bK i1) fun e2=>
    au (xH e2.value) fun e3=>
    if e3 != 0 then
     some e3
    else
     zT bK i1 (uy bK bW) BIG 0
  else
   some 0

def Gq (bK:List av):Option Int:=
 if decide (1024 < (bK.length:Int)) then
  some 3
 else
  uy bK BIG 0

def Dx (oU:Int):Option Bool:=
 some ((oU == 32) || (oU == 9))

def yU (s1:Str) (Js:UInt8→Option Bool):Nat→Int→Option Int
 | 0,_=>none
 | bW + 1,at2=>
  au (
    if decide (at2 < (s1.length:Int)) then
     au (idx s1 at2) fun x1=>
     Js x1
    else
     some false) fun b1=>
  if b1 then
   yU s1 Js bW (bS (at2 + 1))
  else
   some at2

def BI (s1:Str) (jI:Int) (Js:UInt8→Option Bool):Option Int:=
 yU s1 Js BIG jI

def yZ (c1:UInt8):Option Bool:=
 some ((c1.toNat:Int) != 10)

def yV (c1:UInt8):Option Bool:=
 some ((((decide (97≤(c1.toNat:Int))) && (decide ((c1.toNat:Int)≤122))) || ((decide (65≤(c1.toNat:Int))) && (decide ((c1.toNat:Int)≤90)))) || ((c1.toNat:Int) == 95))

def uJ (c1:UInt8):Option Bool:=
 some ((decide (48≤(c1.toNat:Int))) && (decide ((c1.toNat:Int)≤57)))

def Cv (c1:UInt8):Option Bool:=
 au (yV c1) fun x1=>
 if x1 then
  some true
 else
  uJ c1

def K4 (fZ:Str) (jI:Int):Option (aX × Int × Int):=
 au (BI fZ jI Cv) fun Ak=>
 if decide (64 < (bS (Ak - jI))) then
  some ((aX.mk 0 ([]:Str) 0),0,3)
 else
  au (sl fZ jI Ak) fun x1=>
  some ((aX.mk 1 x1 jI),Ak,0)

def yY (Bb:Str):Nat→Int→Int→Option Bool
 | 0,_,_=>none
 | bW + 1,n1,i1=>
  if (decide (i1 < (Bb.length:Int))) && (decide (n1≤9007199254740992)) then
   au (idx Bb i1) fun x1=>
   yY Bb bW (bS ((bS (10 * n1)) + ((x1 - 48).toNat:Int))) (bS (i1 + 1))
  else
   some (decide (9007199254740992 < n1))

def Jd (Bb:Str):Option Bool:=
 yY Bb BIG 0 0

def GJ (fZ:Str) (jI:Int):Option (aX × Int × Int):=
 au (BI fZ jI uJ) fun Ak=>
 au (sl fZ jI Ak) fun text1=>
 au (
   if decide (1 < (text1.length:Int)) then
    au (idx text1 0) fun x1=>
    some ((x1.toNat:Int) == 48)
   else
    some false) fun b1=>
 au (
   if b1 then
    some true
   else
    if decide (Ak < (fZ.length:Int)) then
     au (idx fZ Ak) fun x2=>
     yV x2
    else
     some false) fun b2=>
 if b2 then
  some ((aX.mk 0 ([]:Str) 0),0,5)
 else
  au (Jd text1) fun x4=>
  if x4 then
   some ((aX.mk 0 ([]:Str) 0),0,2)
  else
   some ((aX.mk 2 text1 jI),Ak,0)

def z_ (c1:UInt8):Option Int:=
 au (uJ c1) fun x1=>
 if x1 then
  some ((c1 - 48).toNat:Int)
 else
  if (decide (97≤(c1.toNat:Int))) && (decide ((c1.toNat:Int)≤102)) then
   some (bS (((c1 - 97).toNat:Int) + 10))
  else
   if (decide (65≤(c1.toNat:Int))) && (decide ((c1.toNat:Int)≤70)) then
    some (bS (((c1 - 65).toNat:Int) + 10))
   else
    some (-1)

def Fb (fZ:Str) (jI:Int):Option (UInt8 × Int):=
 if decide ((fZ.length:Int)≤(bS (jI + 1))) then
  some (0,0)
 else
  au (idx fZ (bS (jI + 1))) fun c1=>
  if (c1.toNat:Int) == 34 then
   some (c1,2)
  else
   if (c1.toNat:Int) == 92 then
    some (c1,2)
   else
    if (c1.toNat:Int) == 110 then
     some (10,2)
    else
     if (c1.toNat:Int) == 116 then
      some (9,2)
     else
      if (c1.toNat:Int) == 120 then
       au (
         if decide ((bS (jI + 3)) < (fZ.length:Int)) then
          au (idx fZ (bS (jI + 2))) fun x1=>
          au (z_ x1) fun x2=>
          some (decide (0≤x2))
         else
          some false) fun b1=>
       au (
         if b1 then
          au (idx fZ (bS (jI + 3))) fun x3=>
          au (z_ x3) fun x4=>
          some (decide (0≤x4))
         else
          some false) fun b2=>
       if b2 then
        au (idx fZ (bS (jI + 2))) fun x5=>
        au (z_ x5) fun x6=>
        au (idx fZ (bS (jI + 3))) fun x7=>
        au (z_ x7) fun x8=>
        some ((Ft.byteOf (bS ((bS (16 * x6)) + x8))),4)
       else
        some (0,0)
      else
       some (0,0)

def Jc (fZ:Str) (jI:Int):Option Bool:=
 au (sl fZ (bS (jI + 1)) (fZ.length:Int)) fun Qo=>
 if (Qo == ([]:Str)) || (Qo == ([120]:Str)) then
  some true
 else
  au (
    if (Qo.length:Int) == 2 then
     au (idx Qo 0) fun x1=>
     some ((x1.toNat:Int) == 120)
    else
     some false) fun b2=>
  if b2 then
   au (idx Qo 1) fun x2=>
   au (z_ x2) fun x3=>
   some (decide (0≤x3))
  else
   some false

def wG (fZ:Str) (jI:Int):Nat→Int→Str→Option (aX × Int × Int)
 | 0,_,_=>none
 | bW + 1,i1,b1=>
  if decide (i1 < (fZ.length:Int)) then
   au (idx fZ i1) fun c1=>
   if (c1.toNat:Int) == 34 then
    if decide (4096 < (b1.length:Int)) then
     some ((aX.mk 0 ([]:Str) 0),0,3)
    else
     some ((aX.mk 3 b1 jI),(bS (i1 + 1)),0)
   else
    if decide ((c1.toNat:Int) < 32) then
     some ((aX.mk 0 ([]:Str) 0),0,5)
    else
     if (c1.toNat:Int) == 92 then
      fG (Fb fZ i1) fun x1 n1=>
      au (
        if n1 == 0 then
         Jc fZ i1
        else
         some false) fun b2=>
      if b2 then
       some ((aX.mk 0 ([]:Str) 0),0,4)
      else
       if n1 == 0 then
        some ((aX.mk 0 ([]:Str) 0),0,5)
       else
        au (app b1 [x1]) fun b3=>
        wG fZ jI bW (bS (i1 + n1)) b3
     else
      au (app b1 [c1]) fun b4=>
      wG fZ jI bW (bS (i1 + 1)) b4
  else
   some ((aX.mk 0 ([]:Str) 0),0,4)

def K3 (fZ:Str) (jI:Int):Option (aX × Int × Int):=
 wG fZ jI BIG (bS (jI + 1)) []

def p8 (fZ:Str) (jI:Int):Nat→Int→Option (aX × Int × Int)
 | 0,_=>none
 | bW + 1,x1=>
  if decide (x1 < (([2,1]:List Int).length:Int)) then
   au (idx ([2,1]:List Int) x1) fun n1=>
   if decide ((fZ.length:Int) < (bS (jI + n1))) then
    p8 fZ jI bW (bS (x1 + 1))
   else
    au (sl fZ jI (bS (jI + n1))) fun s1=>
    if s1 == ([124,124]:Str) then
     some ((aX.mk 4 s1 jI),(bS (jI + n1)),0)
    else
     if s1 == ([38,38]:Str) then
      some ((aX.mk 4 s1 jI),(bS (jI + n1)),0)
     else
      if s1 == ([61,61]:Str) then
       some ((aX.mk 4 s1 jI),(bS (jI + n1)),0)
      else
       if s1 == ([33,61]:Str) then
        some ((aX.mk 4 s1 jI),(bS (jI + n1)),0)
       else
        if s1 == ([60,61]:Str) then
         some ((aX.mk 4 s1 jI),(bS (jI + n1)),0)
        else
         if s1 == ([62,61]:Str) then
          some ((aX.mk 4 s1 jI),(bS (jI + n1)),0)
         else
          if s1 == ([60]:Str) then
           some ((aX.mk 4 s1 jI),(bS (jI + n1)),0)
          else
           if s1 == ([62]:Str) then
            some ((aX.mk 4 s1 jI),(bS (jI + n1)),0)
           else
            if s1 == ([43]:Str) then
             some ((aX.mk 4 s1 jI),(bS (jI + n1)),0)
            else
             if s1 == ([45]:Str) then
              some ((aX.mk 4 s1 jI),(bS (jI + n1)),0)
             else
              if s1 == ([42]:Str) then
               some ((aX.mk 4 s1 jI),(bS (jI + n1)),0)
              else
               if s1 == ([47]:Str) then
                some ((aX.mk 4 s1 jI),(bS (jI + n1)),0)
               else
                if s1 == ([37]:Str) then
                 some ((aX.mk 4 s1 jI),(bS (jI + n1)),0)
                else
                 if s1 == ([33]:Str) then
                  some ((aX.mk 4 s1 jI),(bS (jI + n1)),0)
                 else
                  if s1 == ([63]:Str) then
                   some ((aX.mk 4 s1 jI),(bS (jI + n1)),0)
                  else
                   if s1 == ([58]:Str) then
                    some ((aX.mk 4 s1 jI),(bS (jI + n1)),0)
                   else
                    if s1 == ([46]:Str) then
                     some ((aX.mk 4 s1 jI),(bS (jI + n1)),0)
                    else
                     if s1 == ([44]:Str) then
                      some ((aX.mk 4 s1 jI),(bS (jI + n1)),0)
                     else
                      if s1 == ([61]:Str) then
                       some ((aX.mk 4 s1 jI),(bS (jI + n1)),0)
                      else
                       if s1 == ([40]:Str) then
                        some ((aX.mk 4 s1 jI),(bS (jI + n1)),0)
                       else
                        if s1 == ([41]:Str) then
                         some ((aX.mk 4 s1 jI),(bS (jI + n1)),0)
                        else
                         if s1 == ([91]:Str) then
                          some ((aX.mk 4 s1 jI),(bS (jI + n1)),0)
                         else
                          if s1 == ([93]:Str) then
                           some ((aX.mk 4 s1 jI),(bS (jI + n1)),0)
                          else
                           if s1 == ([123]:Str) then
                            some ((aX.mk 4 s1 jI),(bS (jI + n1)),0)
                           else
                            if s1 == ([125]:Str) then
                             some ((aX.mk 4 s1 jI),(bS (jI + n1)),0)
                            else
                             p8 fZ jI bW (bS (x1 + 1))
  else
   some ((aX.mk 0 ([]:Str) 0),0,5)

def Dv (fZ:Str) (jI:Int):Option (aX × Int × Int):=
 p8 fZ jI BIG 0

def Jb (fZ:Str) (jI:Int):Option (aX × Int × Int):=
 au (idx fZ jI) fun c1=>
 au (yV c1) fun x1=>
 if x1 then
  K4 fZ jI
 else
  au (uJ c1) fun x5=>
  if x5 then
   GJ fZ jI
  else
   if (c1.toNat:Int) == 34 then
    K3 fZ jI
   else
    Dv fZ jI

def Dw (op1:Str) (pX:Int):Option Int:=
 if op1 == ([40]:Str) then
  some (bS (pX + 1))
 else
  if op1 == ([91]:Str) then
   some (bS (pX + 1))
  else
   if op1 == ([41]:Str) then
    some (if 0 < (bS (pX - 1)) then (bS (pX - 1)) else 0)
   else
    if op1 == ([93]:Str) then
     some (if 0 < (bS (pX - 1)) then (bS (pX - 1)) else 0)
    else
     some pX

def kR (fZ:Str):Nat→List aX→Int→Int→Nat→Option (List aX × Int × Int)
 | 0,_,_,_,_=>none
 | bW + 1,aT,BH,pX,pos1=>
  if decide (pos1 < fZ.length) then
   au (
     if decide ((pos1:Int) < BH) then
      some true
     else
      Dx ((dec fZ pos1).1:Int)) fun b1=>
   if b1 then
    kR fZ bW aT BH pX (pos1 + (dec fZ pos1).2)
   else
    if ((dec fZ pos1).1:Int) == 35 then
     au (BI fZ (pos1:Int) yZ) fun QH=>
     kR fZ bW aT QH pX (pos1 + (dec fZ pos1).2)
    else
     if ((dec fZ pos1).1:Int) == 10 then
      au (
        if pX == 0 then
         if (aT.length:Int) == 0 then
          some true
         else
          au (idx aT (bS ((aT.length:Int) - 1))) fun e1=>
          some (e1.kind != 5)
        else
         some false) fun b2=>
      if b2 then
       au (app aT [(aX.mk 5 ([]:Str) (pos1:Int))]) fun Cq=>
       kR fZ bW Cq BH pX (pos1 + (dec fZ pos1).2)
      else
       kR fZ bW aT BH pX (pos1 + (dec fZ pos1).2)
     else
      F7 (Jb fZ (pos1:Int)) fun x2 Ak e2=>
      if e2 != 0 then
       some ([],(pos1:Int),e2)
      else
       if x2.kind == 4 then
        au (Dw x2.text pX) fun adZ=>
        au (app aT [x2]) fun ah6=>
        kR fZ bW ah6 Ak adZ (pos1 + (dec fZ pos1).2)
       else
        au (app aT [x2]) fun ah5=>
        kR fZ bW ah5 Ak pX (pos1 + (dec fZ pos1).2)
  else
   some (aT,0,0)

def GK (fZ:Str):Option (List aX × Int × Int):=
 if decide (65536 < (fZ.length:Int)) then
  some ([],0,3)
 else
  kR fZ BIG [] 0 0 0

def wD (c1:UInt8):Option Bool:=
 some ((((decide (97≤(c1.toNat:Int))) && (decide ((c1.toNat:Int)≤122))) || ((decide (65≤(c1.toNat:Int))) && (decide ((c1.toNat:Int)≤90)))) || ((c1.toNat:Int) == 95))

def yN (c1:UInt8):Option Bool:=
 some ((decide (48≤(c1.toNat:Int))) && (decide ((c1.toNat:Int)≤57)))

def qN (s1:Str):Nat→Int→Option Bool
 | 0,_=>none
 | bW + 1,i1=>
  if decide (i1 < (s1.length:Int)) then
   au (idx s1 i1) fun x3=>
   au (wD x3) fun x4=>
   au (
     if !x4 then
      au (idx s1 i1) fun x5=>
      au (yN x5) fun x6=>
      some (!x6)
     else
      some false) fun b2=>
   if b2 then
    some false
   else
    qN s1 bW (bS (i1 + 1))
  else
   some true

def xK (s1:Str):Option Bool:=
 au (
   if (decide ((s1.length:Int) < 1)) || (decide (64 < (s1.length:Int))) then
    some true
   else
    au (idx s1 0) fun x1=>
    au (wD x1) fun x2=>
    some (!x2)) fun b1=>
 if b1 then
  some false
 else
  qN s1 BIG 0

def strconv_Itoa (n1:Int):Option Str:=
 if -9223372036854775808≤n1∧n1≤9223372036854775807 then some (uM n1) else none

def strconv_Atoi (s1:Str):Option (Int × Option Nat):=
 if s1.length≤281474976710656 then some ((zF s1).2,if (zF s1).1=0 then none else some 246) else none

def tu (s1:Str):Nat→Int→Option Bool
 | 0,_=>none
 | bW + 1,i1=>
  if decide (i1 < (s1.length:Int)) then
   au (idx s1 i1) fun x2=>
   au (yN x2) fun x3=>
   if !x3 then
    some false
   else
    tu s1 bW (bS (i1 + 1))
  else
   fG (strconv_Atoi s1) fun n1 aeu=>
   some ((aeu.isNone) && (decide (n1≤9007199254740992)))

def Dt (s1:Str):Option Bool:=
 au (
   if s1 == ([]:Str) then
    some true
   else
    if decide (1 < (s1.length:Int)) then
     au (idx s1 0) fun x1=>
     some ((x1.toNat:Int) == 48)
    else
     some false) fun b1=>
 if b1 then
  some false
 else
  tu s1 BIG 0

def I4 (t1:aX):Option Bool:=
 if t1.kind == 1 then
  xK t1.text
 else
  if t1.kind == 2 then
   Dt t1.text
  else
   if t1.kind == 3 then
    some (decide ((t1.text.length:Int)≤4096))
   else
    if t1.kind == 4 then
     some true
    else
     some false

def l6 (oU:ak):Option (aX × ak):=
 au (
   if decide (oU.at_ < (oU.ts.length:Int)) then
    au (idx oU.ts oU.at_) fun e1=>
    I4 e1
   else
    some false) fun b1=>
 if b1 then
  au (idx oU.ts oU.at_) fun e2=>
  some (e2,oU)
 else
  some ((aX.mk 0 ([]:Str) 0),oU)

def zY (oU:ak) (op1:Str):Option (Bool × ak):=
 fG (l6 oU) fun x1 y1=>
 some (((x1.kind == 4) && (x1.text == op1)),y1)

def dZ (oU:ak) (op1:Str):Option (Bool × ak):=
 fG (zY oU op1) fun x1 y1=>
 if !x1 then
  some (false,y1)
 else
  some (true,(ak.mk y1.ts (bS (y1.at_ + 1))))

def jl (oU:ak) (e1:Int):Option (fq aA Unit × ak):=
 some (.bad (aA.mk oU.at_ e1),oU)

def l7 (oU:ak):Option (fq aA aX × ak):=
 if decide ((oU.ts.length:Int)≤oU.at_) then
  jd (jl oU 4) (fun e1 y2=>some (.bad e1,y2)) fun _ y1=>
  fG (l6 y1) fun x1 y3=>
  if x1.kind == 0 then
   jd (jl y3 5) (fun e2 y5=>some (.bad e2,y5)) fun _ y4=>
   some (.ok x1,y4)
  else
   some (.ok x1,y3)
 else
  fG (l6 oU) fun x2 y6=>
  if x2.kind == 0 then
   jd (jl y6 5) (fun e3 y8=>some (.bad e3,y8)) fun _ y7=>
   some (.ok x2,y7)
  else
   some (.ok x2,y6)

def qO (v1:ah):Option aj:=
 some (aj.mk 1 ([]:Str) v1 [] [])

def xI (s1:Str):Option Bool:=
 some (((s1 == ([116,114,117,101]:Str)) || (s1 == ([102,97,108,115,101]:Str))) || (s1 == ([110,117,108,108]:Str)))

def h_ (oU:ak) (op1:Str):Option (fq aA Unit × ak):=
 jd (l7 oU) (fun e1 y2=>some (.bad e1,y2)) fun x1 y1=>
 fG (dZ y1 op1) fun x2 y3=>
 if !x2 then
  jd (jl y3 5) (fun e2 y5=>some (.bad e2,y5)) fun _ y4=>
  some (.ok (),y4)
 else
  some (.ok (),y3)

def gG (op1:Str):Option Int:=
 if op1 == ([124,124]:Str) then
  some 2
 else
  if op1 == ([38,38]:Str) then
   some 3
  else
   if op1 == ([61,61]:Str) then
    some 4
   else
    if op1 == ([33,61]:Str) then
     some 4
    else
     if op1 == ([60]:Str) then
      some 4
     else
      if op1 == ([60,61]:Str) then
       some 4
      else
       if op1 == ([62]:Str) then
        some 4
       else
        if op1 == ([62,61]:Str) then
         some 4
        else
         if op1 == ([43]:Str) then
          some 5
         else
          if op1 == ([45]:Str) then
           some 5
          else
           if op1 == ([42]:Str) then
            some 6
           else
            if op1 == ([47]:Str) then
             some 6
            else
             if op1 == ([37]:Str) then
              some 6
             else
              some 0

def o9 (aC:ak→Option (fq aA aj × ak)) (aK:ak→Int→Option (fq aA aj × ak)) (aO:ak→Option (fq aA aj × ak)) (aQ:ak→Option (fq aA aj × ak)) (bg:ak→Option (fq aA aj × ak)) (bf:ak→Str→Option (fq aA aj × ak)) (aZ:ak→Str→Option (fq aA (List aj) × ak)) (aR:ak→Option (fq aA aj × ak)) (oU:ak):Option (fq aA aj × ak):=
 jd (aK oU 2) (fun e1 y2=>some (.bad e1,y2)) fun x1 y1=>
 fG (dZ y1 ([63]:Str)) fun x2 y3=>
 if !x2 then
  some (.ok x1,y3)
 else
  jd (aC y3) (fun e2 y5=>some (.bad e2,y5)) fun x3 y4=>
  jd (h_ y4 ([58]:Str)) (fun e3 y7=>some (.bad e3,y7)) fun _ y6=>
  jd (aC y6) (fun e4 y9=>some (.bad e4,y9)) fun x4 y8=>
  some (.ok (aj.mk 8 ([]:Str) (ah.mk 0 false 0 ([]:Str) [] []) [x1,x3,x4] []),y8)

def lI (aK:ak→Int→Option (fq aA aj × ak)) (n1:Int):Nat→aj→ak→Option (fq aA aj × ak)
 | 0,_,_=>none
 | bW + 1,e3,y5=>
  fG (l6 y5) fun x3 y6=>
  au (
    if x3.kind != 4 then
     some true
    else
     au (gG x3.text) fun x4=>
     some (x4 != n1)) fun b1=>
  if b1 then
   some (.ok e3,y6)
  else
   jd (aK (ak.mk y6.ts (bS (y6.at_ + 1))) (bS (n1 + 1))) (fun e4 y8=>some (.bad e4,y8)) fun x5 y7=>
   if n1 == 4 then
    some (.ok (aj.mk 7 x3.text (ah.mk 0 false 0 ([]:Str) [] []) [e3,x5] []),y7)
   else
    lI aK n1 bW (aj.mk 7 x3.text (ah.mk 0 false 0 ([]:Str) [] []) [e3,x5] []) y7

def o8 (aC:ak→Option (fq aA aj × ak)) (aK:ak→Int→Option (fq aA aj × ak)) (aO:ak→Option (fq aA aj × ak)) (aQ:ak→Option (fq aA aj × ak)) (bg:ak→Option (fq aA aj × ak)) (bf:ak→Str→Option (fq aA aj × ak)) (aZ:ak→Str→Option (fq aA (List aj) × ak)) (aR:ak→Option (fq aA aj × ak)) (oU:ak) (n1:Int):Option (fq aA aj × ak):=
 if n1 == 7 then
  jd (aO oU) (fun e1 y2=>some (.bad e1,y2)) fun x1 y1=>
  some (.ok x1,y1)
 else
  jd (aK oU (bS (n1 + 1))) (fun e2 y4=>some (.bad e2,y4)) fun x2 y3=>
  lI aK n1 BIG x2 y3

def nW (aO:ak→Option (fq aA aj × ak)) (aQ:ak→Option (fq aA aj × ak)):Nat→Int→ak→Option (fq aA aj × ak)
 | 0,_,_=>none
 | bW + 1,x1,y1=>
  if decide (x1 < (([([33]:Str),([45]:Str)]:List Str).length:Int)) then
   au (idx ([([33]:Str),([45]:Str)]:List Str) x1) fun op1=>
   fG (dZ y1 op1) fun x2 y2=>
   if x2 then
    jd (aO y2) (fun e1 y4=>some (.bad e1,y4)) fun x3 y3=>
    some (.ok (aj.mk 6 op1 (ah.mk 0 false 0 ([]:Str) [] []) [x3] []),y3)
   else
    nW aO aQ bW (bS (x1 + 1)) y2
  else
   jd (aQ y1) (fun e2 y6=>some (.bad e2,y6)) fun x4 y5=>
   some (.ok x4,y5)

def sS (aC:ak→Option (fq aA aj × ak)) (aK:ak→Int→Option (fq aA aj × ak)) (aO:ak→Option (fq aA aj × ak)) (aQ:ak→Option (fq aA aj × ak)) (bg:ak→Option (fq aA aj × ak)) (bf:ak→Str→Option (fq aA aj × ak)) (aZ:ak→Str→Option (fq aA (List aj) × ak)) (aR:ak→Option (fq aA aj × ak)) (oU:ak):Option (fq aA aj × ak):=
 nW aO aQ BIG 0 oU

def jX (aC:ak→Option (fq aA aj × ak)):Nat→aj→ak→Option (fq aA aj × ak)
 | 0,_,_=>none
 | bW + 1,e2,y3=>
  fG (dZ y3 ([46]:Str)) fun x2 y4=>
  if x2 then
   jd (l7 y4) (fun e3 y6=>some (.bad e3,y6)) fun x3 y5=>
   au (
     if x3.kind != 1 then
      some true
     else
      xI x3.text) fun b1=>
   if b1 then
    jd (jl y5 5) (fun e4 y8=>some (.bad e4,y8)) fun _ y7=>
    jX aC bW (aj.mk 3 x3.text (ah.mk 0 false 0 ([]:Str) [] []) [e2] []) (ak.mk y7.ts (bS (y7.at_ + 1)))
   else
    jX aC bW (aj.mk 3 x3.text (ah.mk 0 false 0 ([]:Str) [] []) [e2] []) (ak.mk y5.ts (bS (y5.at_ + 1)))
  else
   fG (dZ y4 ([91]:Str)) fun x5 y9=>
   if x5 then
    jd (aC y9) (fun e5 y11=>some (.bad e5,y11)) fun x6 y10=>
    jd (h_ y10 ([93]:Str)) (fun e6 y13=>some (.bad e6,y13)) fun _ y12=>
    jX aC bW (aj.mk 4 ([]:Str) (ah.mk 0 false 0 ([]:Str) [] []) [e2,x6] []) y12
   else
    some (.ok e2,y9)

def sU (aC:ak→Option (fq aA aj × ak)) (aK:ak→Int→Option (fq aA aj × ak)) (aO:ak→Option (fq aA aj × ak)) (aQ:ak→Option (fq aA aj × ak)) (bg:ak→Option (fq aA aj × ak)) (bf:ak→Str→Option (fq aA aj × ak)) (aZ:ak→Str→Option (fq aA (List aj) × ak)) (aR:ak→Option (fq aA aj × ak)) (oU:ak):Option (fq aA aj × ak):=
 jd (bg oU) (fun e1 y2=>some (.bad e1,y2)) fun x1 y1=>
 jX aC BIG x1 y1

def uG (aC:ak→Option (fq aA aj × ak)) (aK:ak→Int→Option (fq aA aj × ak)) (aO:ak→Option (fq aA aj × ak)) (aQ:ak→Option (fq aA aj × ak)) (bg:ak→Option (fq aA aj × ak)) (bf:ak→Str→Option (fq aA aj × ak)) (aZ:ak→Str→Option (fq aA (List aj) × ak)) (aR:ak→Option (fq aA aj × ak)) (oU:ak):Option (fq aA aj × ak):=
 jd (l7 oU) (fun e1 y2=>some (.bad e1,y2)) fun x1 y1=>
 if x1.kind == 2 then
  fG (strconv_Atoi x1.text) fun n1 x2=>
  au (qO (ah.mk 2 false n1 ([]:Str) [] [])) fun x3=>
  some (.ok x3,(ak.mk y1.ts (bS (y1.at_ + 1))))
 else
  if x1.kind == 3 then
   au (qO (ah.mk 3 false 0 x1.text [] [])) fun x4=>
   some (.ok x4,(ak.mk y1.ts (bS (y1.at_ + 1))))
  else
   if x1.kind == 1 then
    jd (bf (ak.mk y1.ts (bS (y1.at_ + 1))) x1.text) (fun e2 y4=>some (.bad e2,y4)) fun x5 y3=>
    some (.ok x5,y3)
   else
    fG (dZ y1 ([40]:Str)) fun x6 y5=>
    if x6 then
     jd (aC y5) (fun e3 y7=>some (.bad e3,y7)) fun x7 y6=>
     jd (h_ y6 ([41]:Str)) (fun e4 y9=>some (.bad e4,y9)) fun _ y8=>
     some (.ok x7,y8)
    else
     fG (dZ y5 ([91]:Str)) fun x8 y10=>
     if x8 then
      jd (aZ y10 ([93]:Str)) (fun e5 y12=>some (.bad e5,y12)) fun x9 y11=>
      some (.ok (aj.mk 9 ([]:Str) (ah.mk 0 false 0 ([]:Str) [] []) x9 []),y11)
     else
      fG (dZ y10 ([123]:Str)) fun CO y13=>
      if CO then
       jd (aR y13) (fun e6 y15=>some (.bad e6,y15)) fun KP y14=>
       some (.ok KP,y14)
      else
       jd (jl y13 5) (fun e7 y17=>some (.bad e7,y17)) fun _ y16=>
       some (.ok (aj.mk 0 ([]:Str) (ah.mk 0 false 0 ([]:Str) [] []) [] []),y16)

def uF (aC:ak→Option (fq aA aj × ak)) (aK:ak→Int→Option (fq aA aj × ak)) (aO:ak→Option (fq aA aj × ak)) (aQ:ak→Option (fq aA aj × ak)) (bg:ak→Option (fq aA aj × ak)) (bf:ak→Str→Option (fq aA aj × ak)) (aZ:ak→Str→Option (fq aA (List aj) × ak)) (aR:ak→Option (fq aA aj × ak)) (oU:ak) (s1:Str):Option (fq aA aj × ak):=
 if s1 == ([110,117,108,108]:Str) then
  au (qO (ah.mk 0 false 0 ([]:Str) [] [])) fun x1=>
  some (.ok x1,oU)
 else
  au (xI s1) fun x2=>
  if x2 then
   au (qO (ah.mk 1 (s1 == ([116,114,117,101]:Str)) 0 ([]:Str) [] [])) fun x3=>
   some (.ok x3,oU)
  else
   fG (dZ oU ([40]:Str)) fun x4 y1=>
   if x4 then
    jd (aZ y1 ([41]:Str)) (fun e1 y3=>some (.bad e1,y3)) fun x5 y2=>
    some (.ok (aj.mk 5 s1 (ah.mk 0 false 0 ([]:Str) [] []) x5 []),y2)
   else
    some (.ok (aj.mk 2 s1 (ah.mk 0 false 0 ([]:Str) [] []) [] []),y1)

def oO (aC:ak→Option (fq aA aj × ak)) (Ak:Str):Nat→List aj→ak→Option (fq aA (List aj) × ak)
 | 0,_,_=>none
 | bW + 1,aT,y2=>
  jd (aC y2) (fun e1 y4=>some (.bad e1,y4)) fun x2 y3=>
  au (app aT [x2]) fun Cq=>
  fG (dZ y3 ([44]:Str)) fun x3 y5=>
  if !x3 then
   jd (h_ y5 Ak) (fun e2 y7=>some (.bad e2,y7)) fun _ y6=>
   some (.ok Cq,y6)
  else
   oO aC Ak bW Cq y5

def uH (aC:ak→Option (fq aA aj × ak)) (aK:ak→Int→Option (fq aA aj × ak)) (aO:ak→Option (fq aA aj × ak)) (aQ:ak→Option (fq aA aj × ak)) (bg:ak→Option (fq aA aj × ak)) (bf:ak→Str→Option (fq aA aj × ak)) (aZ:ak→Str→Option (fq aA (List aj) × ak)) (aR:ak→Option (fq aA aj × ak)) (oU:ak) (Ak:Str):Option (fq aA (List aj) × ak):=
 fG (dZ oU Ak) fun x1 y1=>
 if x1 then
  some (.ok [],y1)
 else
  oO aC Ak BIG [] y1

def kH (aC:ak→Option (fq aA aj × ak)):Nat→aj→ak→Option (fq aA aj × ak)
 | 0,_,_=>none
 | bW + 1,aT,y2=>
  jd (l7 y2) (fun e1 y4=>some (.bad e1,y4)) fun x2 y3=>
  if (x2.kind != 1) && (x2.kind != 3) then
   jd (jl y3 5) (fun e2 y6=>some (.bad e2,y6)) fun _ y5=>
   jd (h_ (ak.mk y5.ts (bS (y5.at_ + 1))) ([58]:Str)) (fun e3 y8=>some (.bad e3,y8)) fun _ y7=>
   au (app aT.keys ([x2.text]:List Str)) fun x3=>
   jd (aC y7) (fun e4 y10=>some (.bad e4,y10)) fun x4 y9=>
   au (app aT.args [x4]) fun x5=>
   fG (dZ y9 ([44]:Str)) fun x6 y11=>
   if !x6 then
    jd (h_ y11 ([125]:Str)) (fun e5 y13=>some (.bad e5,y13)) fun _ y12=>
    some (.ok (aj.mk aT.kind aT.name aT.value x5 x3),y12)
   else
    kH aC bW (aj.mk aT.kind aT.name aT.value x5 x3) y11
  else
   jd (h_ (ak.mk y3.ts (bS (y3.at_ + 1))) ([58]:Str)) (fun e6 y15=>some (.bad e6,y15)) fun _ y14=>
   au (app aT.keys ([x2.text]:List Str)) fun x7=>
   jd (aC y14) (fun e7 y17=>some (.bad e7,y17)) fun x8 y16=>
   au (app aT.args [x8]) fun x9=>
   fG (dZ y16 ([44]:Str)) fun CO y18=>
   if !CO then
    jd (h_ y18 ([125]:Str)) (fun e8 y20=>some (.bad e8,y20)) fun _ y19=>
    some (.ok (aj.mk aT.kind aT.name aT.value x9 x7),y19)
   else
    kH aC bW (aj.mk aT.kind aT.name aT.value x9 x7) y18

def qM (aC:ak→Option (fq aA aj × ak)) (aK:ak→Int→Option (fq aA aj × ak)) (aO:ak→Option (fq aA aj × ak)) (aQ:ak→Option (fq aA aj × ak)) (bg:ak→Option (fq aA aj × ak)) (bf:ak→Str→Option (fq aA aj × ak)) (aZ:ak→Str→Option (fq aA (List aj) × ak)) (aR:ak→Option (fq aA aj × ak)) (oU:ak):Option (fq aA aj × ak):=
 fG (dZ oU ([125]:Str)) fun x1 y1=>
 if x1 then
  some (.ok (aj.mk 10 ([]:Str) (ah.mk 0 false 0 ([]:Str) [] []) [] []),y1)
 else
  kH aC BIG (aj.mk 10 ([]:Str) (ah.mk 0 false 0 ([]:Str) [] []) [] []) y1

mutual
def bM :Nat→ak→Option (fq aA aj × ak)
 | 0,_=>none
 | k + 1,gN=>o9 (bM k) (bL k) (cB k) (cK k) (dB k) (dA k) (dD k) (bU k) gN
def bL :Nat→ak→Int→Option (fq aA aj × ak)
 | 0,_,_=>none
 | k + 1,gN,OY=>o8 (bM k) (bL k) (cB k) (cK k) (dB k) (dA k) (dD k) (bU k) gN OY
def cB :Nat→ak→Option (fq aA aj × ak)
 | 0,_=>none
 | k + 1,gN=>sS (bM k) (bL k) (cB k) (cK k) (dB k) (dA k) (dD k) (bU k) gN
def cK :Nat→ak→Option (fq aA aj × ak)
 | 0,_=>none
 | k + 1,gN=>sU (bM k) (bL k) (cB k) (cK k) (dB k) (dA k) (dD k) (bU k) gN
def dB :Nat→ak→Option (fq aA aj × ak)
 | 0,_=>none
 | k + 1,gN=>uG (bM k) (bL k) (cB k) (cK k) (dB k) (dA k) (dD k) (bU k) gN
def dA :Nat→ak→Str→Option (fq aA aj × ak)
 | 0,_,_=>none
 | k + 1,gN,pE=>uF (bM k) (bL k) (cB k) (cK k) (dB k) (dA k) (dD k) (bU k) gN pE
def dD :Nat→ak→Str→Option (fq aA (List aj) × ak)
 | 0,_,_=>none
 | k + 1,gN,Ht=>uH (bM k) (bL k) (cB k) (cK k) (dB k) (dA k) (dD k) (bU k) gN Ht
def bU :Nat→ak→Option (fq aA aj × ak)
 | 0,_=>none
 | k + 1,gN=>qM (bM k) (bL k) (cB k) (cK k) (dB k) (dA k) (dD k) (bU k) gN
end

def xJ (gN:ak):Option (fq aA aj × ak):=bM BIG gN

def FV (gN:ak) (OY:Int):Option (fq aA aj × ak):=bL BIG gN OY

def Kh (gN:ak):Option (fq aA aj × ak):=cB BIG gN

def Ki (gN:ak):Option (fq aA aj × ak):=cK BIG gN

def KV (gN:ak):Option (fq aA aj × ak):=dB BIG gN

def KU (gN:ak) (pE:Str):Option (fq aA aj × ak):=dA BIG gN pE

def KW (gN:ak) (Ht:Str):Option (fq aA (List aj) × ak):=dD BIG gN Ht

def Ih (gN:ak):Option (fq aA aj × ak):=bU BIG gN

def I5 (Qd:List aX):Option (aj × Int × Int):=
 jd (xJ (ak.mk Qd 0)) (fun f1 _=>some ((aj.mk 0 ([]:Str) (ah.mk 0 false 0 ([]:Str) [] []) [] []),f1.at_,f1.code)) fun e1 r1=>
 some (e1,r1.at_,0)

def su (jU:aj→Option Int) (e1:aj):Nat→Int→Int→Option Int
 | 0,_,_=>none
 | bW + 1,n1,x1=>
  if decide (x1 < (e1.args.length:Int)) then
   au (idx e1.args x1) fun e2=>
   au (jU e2) fun x2=>
   su jU e1 bW (bS (n1 + x2)) (bS (x1 + 1))
  else
   some n1

def yP (jU:aj→Option Int) (e1:aj):Option Int:=
 su jU e1 BIG 1 0

def lJ :Nat→aj→Option Int
 | 0,_=>none
 | k + 1,fV=>yP (lJ k) fV

def Co (fV:aj):Option Int:=lJ BIG fV

def Ey (v1:ah):Option Bool:=
 some ((((((v1.kind == 0) && (!v1.dh)) && (v1.bZ == 0)) && (v1.bI == ([]:Str))) && ((v1.aI.length:Int) == 0)) && ((v1.keys.length:Int) == 0))

def rO (s1:Str):Option Bool:=
 au (xK s1) fun x1=>
 if x1 then
  au (xI s1) fun x2=>
  some (!x2)
 else
  some false

def yL (e1:aj):Option Bool:=
 if e1.kind == 2 then
  rO e1.name
 else
  if e1.kind == 3 then
   rO e1.name
  else
   if e1.kind == 5 then
    rO e1.name
   else
    if e1.kind == 6 then
     some ((e1.name == ([33]:Str)) || (e1.name == ([45]:Str)))
    else
     if e1.kind == 7 then
      au (gG e1.name) fun x4=>
      some (decide (0 < x4))
     else
      some (e1.name == ([]:Str))

def yO (e1:aj):Option Bool:=
 if e1.kind == 1 then
  some ((e1.args.length:Int) == 0)
 else
  if e1.kind == 2 then
   some ((e1.args.length:Int) == 0)
  else
   if e1.kind == 3 then
    some ((e1.args.length:Int) == 1)
   else
    if e1.kind == 6 then
     some ((e1.args.length:Int) == 1)
    else
     if e1.kind == 4 then
      some ((e1.args.length:Int) == 2)
     else
      if e1.kind == 7 then
       some ((e1.args.length:Int) == 2)
      else
       if e1.kind == 8 then
        some ((e1.args.length:Int) == 3)
       else
        some true

def gZ (s1:List Str) (f1:Str→Option Bool):Nat→Int→Option Int
 | 0,_=>none
 | bW + 1,i1=>
  if decide (i1 < (s1.length:Int)) then
   au (idx s1 i1) fun e1=>
   au (f1 e1) fun x1=>
   if x1 then
    some i1
   else
    gZ s1 f1 bW (bS (i1 + 1))
  else
   some (-1)

def jG (s1:List Str) (f1:Str→Option Bool):Option Int:=
 gZ s1 f1 BIG 0

def g_ (s1:List Str) (f1:Str→Option Bool):Option Bool:=
 au (jG s1 f1) fun x1=>
 some (decide (0≤x1))

def kI (xO:Str):Option Bool:=
 some ((decide ((xO.length:Int) < 1)) || (decide (64 < (xO.length:Int))))

def yM (e1:aj):Option Bool:=
 if e1.kind != 10 then
  some ((e1.keys.length:Int) == 0)
 else
  if (e1.keys.length:Int) == (e1.args.length:Int) then
   au (g_ e1.keys kI) fun x1=>
   some (!x1)
  else
   some false

def lq {β:Type} (go:β→ah→Int→Option (Bool × β)) (v1:ah) (bP:Int):Nat→β→Int→Option (Bool × β)
 | 0,_,_=>none
 | bW + 1,s1,i1=>
  if decide (i1 < (v1.aI.length:Int)) then
   au (idx v1.aI i1) fun x1=>
   fG (go s1 x1 (bS (bP + 1))) fun b1 s2=>
   if !b1 then
    some (false,s2)
   else
    lq go v1 bP bW s2 (bS (i1 + 1))
  else
   some (true,s1)

def u7 {β:Type} (go:β→ah→Int→Option (Bool × β)) (y:β→Int→ah→Option (Bool × β)) (s1:β) (v1:ah) (bP:Int):Option (Bool × β):=
 fG (y s1 bP v1) fun b1 s2=>
 if !b1 then
  some (false,s2)
 else
  lq go v1 bP BIG s2 0

def gV {β:Type} (y:β→Int→ah→Option (Bool × β)):Nat→β→ah→Int→Option (Bool × β)
 | 0,_,_,_=>none
 | k + 1,s1,v1,bP=>u7 (gV y k) y s1 v1 bP

def Db {β:Type} (y:β→Int→ah→Option (Bool × β)) (s1:β) (v1:ah) (bP:Int):Option (Bool × β):=gV y BIG s1 v1 bP

def Ch (v1:ah):Option Bool:=
 some ((((((v1.kind == 1) || (!v1.dh)) && ((v1.kind == 2) || (v1.bZ == 0))) && ((v1.kind == 3) || (v1.bI == ([]:Str)))) && (((v1.kind == 4) || (v1.kind == 5)) || ((v1.aI.length:Int) == 0))) && ((v1.kind == 5) || ((v1.keys.length:Int) == 0)))

def ED (c1:UInt8):Option Bool:=
 some ((decide (48≤(c1.toNat:Int))) && (decide ((c1.toNat:Int)≤57)))

def zm (s1:Str):Nat→Int→Option Int
 | 0,_=>none
 | bW + 1,n1=>
  au (
    if decide (n1 < (s1.length:Int)) then
     au (idx s1 n1) fun x1=>
     ED x1
    else
     some false) fun b1=>
  if b1 then
   zm s1 bW (bS (n1 + 1))
  else
   some n1

def CZ (s1:Str):Option Int:=
 zm s1 BIG 0

def iY (c1:UInt8):Nat→Str→Option Str
 | 0,_=>none
 | bW + 1,s2=>
  au (
    if decide (0 < (s2.length:Int)) then
     au (idx s2 0) fun x1=>
     some ((x1.toNat:Int) == (c1.toNat:Int))
    else
     some false) fun b1=>
  if b1 then
   au (sl s2 1 (s2.length:Int)) fun s3=>
   iY c1 bW s3
  else
   some s2

def strings_trimLeftByte (s1:Str) (c1:UInt8):Option Str:=
 iY c1 BIG s1

def ou (s1:Str) (EM:Str):Option Str:=
 if (s1 == ([]:Str)) || (EM == ([]:Str)) then
  some s1
 else
  au (
    if (EM.length:Int) == 1 then
     au (idx EM 0) fun x1=>
     some (decide ((x1.toNat:Int) < 128))
    else
     some false) fun b1=>
  if b1 then
   au (idx EM 0) fun x2=>
   strings_trimLeftByte s1 x2
  else
   none

def cmp_isNaN_int (x1:Int):Option Bool:=
 some (x1 != x1)

def cmp_Compare_int (x1:Int) (y1:Int):Option Int:=
 au (cmp_isNaN_int x1) fun Oa=>
 au (cmp_isNaN_int y1) fun Ik=>
 if Oa then
  if Ik then
   some 0
  else
   some (-1)
 else
  if Ik then
   some 1
  else
   if decide (x1 < y1) then
    some (-1)
   else
    if decide (y1 < x1) then
     some 1
    else
     some 0

def cmp_isNaN_string (x1:Str):Option Bool:=
 some (!(x1 == x1))

def mq (x1:Str) (y1:Str):Option Int:=
 au (cmp_isNaN_string x1) fun Oa=>
 au (cmp_isNaN_string y1) fun Ik=>
 if Oa then
  if Ik then
   some 0
  else
   some (-1)
 else
  if Ik then
   some 1
  else
   if Go.Op.bytesLess x1 y1 then
    some (-1)
   else
    if !(Go.Op.bytesLess x1 y1 || x1 == y1) then
     some 1
    else
     some 0

def wN (Hr:List Int):Nat→Int→Option Int
 | 0,_=>none
 | bW + 1,x1=>
  if decide (x1 < (Hr.length:Int)) then
   au (idx Hr x1) fun abP=>
   if abP != 0 then
    some abP
   else
    wN Hr bW (bS (x1 + 1))
  else
   some 0

def DV (Hr:List Int):Option Int:=
 wN Hr BIG 0

def wH (a1:Str) (b1:Str):Option Int:=
 au (ou a1 ([48]:Str)) fun x1=>
 au (ou b1 ([48]:Str)) fun y1=>
 au (cmp_Compare_int (x1.length:Int) (y1.length:Int)) fun x2=>
 au (mq x1 y1) fun x3=>
 au (cmp_Compare_int (a1.length:Int) (b1.length:Int)) fun x4=>
 DV ([x2,x3,x4]:List Int)

def uT (x1:UInt8):Option Bool:=
 some ((x1.toNat:Int) != (x1.toNat:Int))

def qX (x1:UInt8) (y1:UInt8):Option Int:=
 au (uT x1) fun Oa=>
 au (uT y1) fun Ik=>
 if Oa then
  if Ik then
   some 0
  else
   some (-1)
 else
  if Ik then
   some 1
  else
   if decide ((x1.toNat:Int) < (y1.toNat:Int)) then
    some (-1)
   else
    if decide ((y1.toNat:Int) < (x1.toNat:Int)) then
     some 1
    else
     some 0

def j3 :Nat→Str→Str→Option Int
 | 0,_,_=>none
 | bW + 1,a2,b2=>
  if (!(a2 == ([]:Str))) && (!(b2 == ([]:Str))) then
   au (CZ a2) fun n1=>
   au (CZ b2) fun m1=>
   if (decide (0 < n1)) && (decide (0 < m1)) then
    au (sl a2 0 n1) fun x1=>
    au (sl b2 0 m1) fun x2=>
    au (wH x1 x2) fun c1=>
    if c1 != 0 then
     some c1
    else
     au (sl a2 n1 (a2.length:Int)) fun a3=>
     au (sl b2 m1 (b2.length:Int)) fun b3=>
     j3 bW a3 b3
   else
    au (idx a2 0) fun x3=>
    au (idx b2 0) fun x4=>
    if (x3.toNat:Int) != (x4.toNat:Int) then
     au (idx a2 0) fun x5=>
     au (idx b2 0) fun x6=>
     qX x5 x6
    else
     au (sl a2 1 (a2.length:Int)) fun a4=>
     au (sl b2 1 (b2.length:Int)) fun b4=>
     j3 bW a4 b4
  else
   cmp_Compare_int (a2.length:Int) (b2.length:Int)

def jD (a1:Str) (b1:Str):Option Int:=
 j3 BIG a1 b1

def qJ (v1:ah):Nat→Int→Option Bool
 | 0,_=>none
 | bW + 1,i1=>
  if decide (i1 < (v1.keys.length:Int)) then
   au (idx v1.keys i1) fun xO=>
   au (
     if (decide ((xO.length:Int) < 1)) || (decide (64 < (xO.length:Int))) then
      some true
     else
      if decide (0 < i1) then
       au (idx v1.keys (bS (i1 - 1))) fun e1=>
       au (jD e1 xO) fun x1=>
       some (decide (0≤x1))
      else
       some false) fun b1=>
   if b1 then
    some false
   else
    qJ v1 bW (bS (i1 + 1))
  else
   some true

def Bl (v1:ah):Option Bool:=
 if (v1.keys.length:Int) != (v1.aI.length:Int) then
  some false
 else
  qJ v1 BIG 0

def Dc (v1:ah) (bP:Int):Option Int:=
 if decide (16 < bP) then
  some 13
 else
  au (
    if (decide (v1.kind < 0)) || (decide (5 < v1.kind)) then
     some true
    else
     au (Ch v1) fun x1=>
     some (!x1)) fun b1=>
  if b1 then
   some 1
  else
   if (decide (v1.bZ < (-9007199254740992))) || (decide (9007199254740992 < v1.bZ)) then
    some 2
   else
    if ((decide (4096 < (v1.bI.length:Int))) || (decide (1024 < (v1.aI.length:Int)))) || (decide (1024 < (v1.keys.length:Int))) then
     some 3
    else
     au (
       if v1.kind == 5 then
        au (Bl v1) fun x2=>
        some (!x2)
       else
        some false) fun b2=>
     if b2 then
      some 1
     else
      if (((v1.kind == 4) || (v1.kind == 5)) && ((v1.aI.length:Int) == 0)) && (bP == 16) then
       some 13
      else
       some 0

def mG (s1:Option Int) (bP:Int) (x1:ah):Option (Bool × Option Int):=
 match s1 with
 | some _=>none
 | none=>
  au (Dc x1 bP) fun e1=>
  if !(e1 == 0) then
   some (false,some e1)
  else
   some (true,none)

def kr (v1:ah):Option Int:=
 fG (Db mG none v1 1) fun _ s1=>
 some (s1.getD 0)

def oI (l1:List Str):Nat→Int→List (Str × Int)→Option Bool
 | 0,_,_=>none
 | bW + 1,x1,y1=>
  if decide (x1 < (l1.length:Int)) then
   au (idx l1 x1) fun s1=>
   if decide (1 < (sV (wE y1 s1 (bS ((sV y1 s1) + 1))) s1)) then
    some true
   else
    oI l1 bW (bS (x1 + 1)) (wE y1 s1 (bS ((sV y1 s1) + 1)))
  else
   some false

def sj (l1:List Str):Option Bool:=
 oI l1 BIG 0 []

def BF (e1:aj) (bP:Int):Option Int:=
 if decide (16 < bP) then
  some 13
 else
  au (
    if (decide (e1.kind < 1)) || (decide (10 < e1.kind)) then
     some true
    else
     if e1.kind != 1 then
      au (Ey e1.value) fun x1=>
      some (!x1)
     else
      some false) fun b1=>
  au (
    if b1 then
     some true
    else
     au (yL e1) fun x2=>
     some (!x2)) fun b3=>
  au (
    if b3 then
     some true
    else
     au (yO e1) fun x3=>
     some (!x3)) fun b4=>
  au (
    if b4 then
     some true
    else
     au (yM e1) fun x4=>
     some (!x4)) fun b5=>
  if b5 then
   some 1
  else
   au (
     if e1.kind == 1 then
      au (kr e1.value) fun x5=>
      some (x5 != 0)
     else
      some false) fun b6=>
   if b6 then
    kr e1.value
   else
    if decide (1024 < (e1.args.length:Int)) then
     some 3
    else
     au (sj e1.keys) fun x7=>
     if x7 then
      some 7
     else
      some 0

def r_ (jT:aj→Int→Option Int) (e1:aj) (bP:Int):Nat→Int→Option Int
 | 0,_=>none
 | bW + 1,x1=>
  if decide (x1 < (e1.args.length:Int)) then
   au (idx e1.args x1) fun e2=>
   au (jT e2 (bS (bP + 1))) fun f2=>
   if f2 != 0 then
    some f2
   else
    r_ jT e1 bP bW (bS (x1 + 1))
  else
   some 0

def yK (jT:aj→Int→Option Int) (e1:aj) (bP:Int):Option Int:=
 au (BF e1 bP) fun f1=>
 if f1 != 0 then
  some f1
 else
  r_ jT e1 bP BIG 0

def lH :Nat→aj→Int→Option Int
 | 0,_,_=>none
 | k + 1,fV,gI=>yK (lH k) fV gI

def Gw (fV:aj) (gI:Int):Option Int:=lH BIG fV gI

def jY (e1:aj):Option Int:=
 au (Co e1) fun x1=>
 if decide (4096 < x1) then
  some 15
 else
  Gw e1 1

def I6 (Qd:List aX):Option (aj × Int × Int):=
 F7 (I5 Qd) fun x1 n1 EN=>
 if EN != 0 then
  some ((aj.mk 0 ([]:Str) (ah.mk 0 false 0 ([]:Str) [] []) [] []),n1,EN)
 else
  au (jY x1) fun RA=>
  if RA != 0 then
   some ((aj.mk 0 ([]:Str) (ah.mk 0 false 0 ([]:Str) [] []) [] []),0,RA)
  else
   some (x1,n1,0)

def Gx (Qd:List aX) (n1:Int) (fZ:Str):Option Int:=
 if decide (n1 < (Qd.length:Int)) then
  au (idx Qd n1) fun e1=>
  some e1.at_
 else
  some (fZ.length:Int)

def pW (fZ:Str):Option (aj × Int × Int):=
 F7 (GK fZ) fun Qd jI EN=>
 if EN != 0 then
  some ((aj.mk 0 ([]:Str) (ah.mk 0 false 0 ([]:Str) [] []) [] []),jI,EN)
 else
  F7 (I6 Qd) fun x1 n1 RA=>
  if RA != 0 then
   au (Gx Qd n1 fZ) fun x2=>
   some ((aj.mk 0 ([]:Str) (ah.mk 0 false 0 ([]:Str) [] []) [] []),x2,RA)
  else
   if decide (n1 < (Qd.length:Int)) then
    au (idx Qd n1) fun e1=>
    some ((aj.mk 0 ([]:Str) (ah.mk 0 false 0 ([]:Str) [] []) [] []),e1.at_,5)
   else
    some (x1,0,0)

def Ef (EC:Int):Option Str:=
 if (decide (EC < 0)) || (decide (8≤EC)) then
  some ([]:Str)
 else
  idx ([([97,110,121]:Str),([110,117,108,108]:Str),([98,111,111,108]:Str),([105,110,116]:Str),([115,116,114,105,110,103]:Str),([108,105,115,116]:Str),([109,97,112]:Str),([110,101,118,101,114]:Str)]:List Str) EC

def sG (EC:Int):Option Bool:=
 some ((EC == 5) || (EC == 6))

def nK :Nat→Int→b_→Option Int
 | 0,_,_=>none
 | bW + 1,bP,t2=>
  if decide (16 < bP) then
   some 13
  else
   au (Ef t2.kind) fun x1=>
   au (
     if x1 == ([]:Str) then
      some true
     else
      au (sG t2.kind) fun x2=>
      some (x2 && ((t2.elem.length:Int) != 1))) fun b1=>
   au (
     if b1 then
      some true
     else
      au (sG t2.kind) fun x3=>
      some ((!x3) && ((t2.elem.length:Int) != 0))) fun b2=>
   if b2 then
    some 1
   else
    au (sG t2.kind) fun x4=>
    if !x4 then
     some 0
    else
     au (idx t2.elem 0) fun e1=>
     nK bW (bS (bP + 1)) e1

def Ci (t1:b_):Option Int:=
 nK BIG 1 t1

def alR (bK:List qE):Nat→Int→List (Str × Int)→Option Int
 | 0,_,_=>none
 | bW + 1,x1,y1=>
  if decide (x1 < (bK.length:Int)) then
   au (idx bK x1) fun e1=>
   au (jY (aj.mk 2 e1.name (ah.mk 0 false 0 ([]:Str) [] []) [] [])) fun x2=>
   if x2 != 0 then
    some 1
   else
    au (Ci e1.LK) fun e2=>
    if e2 != 0 then
     some e2
    else
     if decide (1 < (sV (wE y1 e1.name (bS ((sV y1 e1.name) + 1))) e1.name)) then
      some 7
     else
      alR bK bW (bS (x1 + 1)) (wE y1 e1.name (bS ((sV y1 e1.name) + 1)))
  else
   some 0

def amm (bK:List qE):Option Int:=
 if decide (1024 < (bK.length:Int)) then
  some 3
 else
  alR bK BIG 0 []

def Rv (EC:Int):Option b_:=
 some (b_.mk EC [])

def aiX (EC:Int) (ae8:b_):Option b_:=
 some (b_.mk EC [ae8])

def afd (name1:Str):Option (List (List b_) × b_):=
 au (Rv 0) fun x1=>
 au (Rv 3) fun x2=>
 au (Rv 4) fun x3=>
 au (Rv 2) fun x4=>
 au (aiX 5 x1) fun x5=>
 au (aiX 6 x1) fun x6=>
 au (aiX 5 x3) fun x7=>
 if name1 == ([108,101,110]:Str) then
  some ([[x3],[x5],[x6]],x2)
 else
  if name1 == ([99,111,110,116,97,105,110,115]:Str) then
   some ([[x5,x1],[x3,x3],[x6,x3]],x4)
  else
   if name1 == ([106,111,105,110]:Str) then
    some ([[x7,x3]],x3)
   else
    if name1 == ([115,116,114,105,110,103]:Str) then
     au (Rv 1) fun x8=>
     some ([[x8],[x4],[x2],[x3]],x3)
    else
     if name1 == ([108,111,119,101,114]:Str) then
      some ([[x3]],x3)
     else
      if name1 == ([117,112,112,101,114]:Str) then
       some ([[x3]],x3)
      else
       if name1 == ([115,112,108,105,116]:Str) then
        some ([[x3,x3]],x7)
       else
        if name1 == ([115,116,97,114,116,115,119,105,116,104]:Str) then
         some ([[x3,x3]],x4)
        else
         if name1 == ([101,110,100,115,119,105,116,104]:Str) then
          some ([[x3,x3]],x4)
         else
          if name1 == ([105,110,116]:Str) then
           some ([[x3]],x2)
          else
           if name1 == ([100,101,102,97,117,108,116]:Str) then
            some ([[x1,x1]],x1)
           else
            if name1 == ([107,101,121,115]:Str) then
             some ([[x6]],x7)
            else
             some ([],x1)

def aad (t1:b_):Option Bool:=
 some ((t1.kind == 0) || (t1.kind == 7))

def air (aiZ:b_→b_→Option Bool) (t1:b_) (u1:b_):Option Bool:=
 au (aad t1) fun x1=>
 if x1 || (u1.kind == 0) then
  some true
 else
  if t1.kind != u1.kind then
   some false
  else
   if ((t1.elem.length:Int) == 1) && ((u1.elem.length:Int) == 1) then
    au (idx t1.elem 0) fun e1=>
    au (idx u1.elem 0) fun e2=>
    aiZ e1 e2
   else
    some true

def acV :Nat→b_→b_→Option Bool
 | 0,_,_=>none
 | k + 1,ut1,uu1=>air (acV k) ut1 uu1

def ae4 (ut1:b_) (uu1:b_):Option Bool:=acV BIG ut1 uu1

def akJ (Qd:List b_) (al0:List b_):Nat→Int→Option Bool
 | 0,_=>none
 | bW + 1,i1=>
  if decide (i1 < (al0.length:Int)) then
   au (idx Qd i1) fun e1=>
   au (idx al0 i1) fun e2=>
   au (ae4 e1 e2) fun x1=>
   if !x1 then
    some false
   else
    akJ Qd al0 bW (bS (i1 + 1))
  else
   some true

def akx (Qd:List b_) (al0:List b_):Option Bool:=
 akJ Qd al0 BIG 0

def abd (EC:Int):Option b_:=
 some (b_.mk EC [])

def akq (EC:Int) (ae8:b_):Option b_:=
 some (b_.mk EC [ae8])

def ale (akv:b_→Option b_) (t1:b_):Option b_:=
 au (sG t1.kind) fun x1=>
 if !x1 then
  abd t1.kind
 else
  au (idx t1.elem 0) fun e1=>
  au (akv e1) fun x3=>
  akq t1.kind x3

def ajb :Nat→b_→Option b_
 | 0,_=>none
 | k + 1,ut1=>ale (ajb k) ut1

def amg (ut1:b_):Option b_:=ajb BIG ut1

def akB (akI:b_→b_→Option b_) (a1:b_) (b1:b_):Option b_:=
 if a1.kind == 7 then
  amg b1
 else
  if b1.kind == 7 then
   amg a1
  else
   if a1.kind != b1.kind then
    abd 0
   else
    au (sG a1.kind) fun x4=>
    if x4 then
     au (idx a1.elem 0) fun e1=>
     au (idx b1.elem 0) fun e2=>
     au (akI e1 e2) fun x5=>
     akq a1.kind x5
    else
     abd a1.kind

def aiT :Nat→b_→b_→Option b_
 | 0,_,_=>none
 | k + 1,wR,wQ=>akB (aiT k) wR wQ

def al1 (wR:b_) (wQ:b_):Option b_:=aiT BIG wR wQ

def ald (aiq:ah→Option b_) (v1:ah):Nat→Int→b_→Option b_
 | 0,_,_=>none
 | bW + 1,x6,ae8=>
  if decide (x6 < (v1.aI.length:Int)) then
   au (idx v1.aI x6) fun e1=>
   au (aiq e1) fun x7=>
   au (al1 ae8 x7) fun x8=>
   ald aiq v1 bW (bS (x6 + 1)) x8
  else
   if v1.kind == 4 then
    akq 5 ae8
   else
    akq 6 ae8

def alX (aiq:ah→Option b_) (v1:ah):Option b_:=
 if v1.kind == 0 then
  abd 1
 else
  if v1.kind == 1 then
   abd 2
  else
   if v1.kind == 2 then
    abd 3
   else
    if v1.kind == 3 then
     abd 4
    else
     au (abd 7) fun x5=>
     ald aiq v1 BIG 0 x5

def ai_ :Nat→ah→Option b_
 | 0,_=>none
 | k + 1,rZ=>alX (ai_ k) rZ

def al2 (rZ:ah):Option b_:=ai_ BIG rZ

def amE (v1:ah):Option b_:=
 au (kr v1) fun x1=>
 if x1 != 0 then
  abd 0
 else
  al2 v1

def akz (bK:List qE) (name1:Str):Nat→Int→Option (b_ × Int)
 | 0,_=>none
 | bW + 1,x1=>
  if decide (x1 < (bK.length:Int)) then
   au (idx bK x1) fun e1=>
   if e1.name == name1 then
    some (e1.LK,0)
   else
    akz bK name1 bW (bS (x1 + 1))
  else
   some ((b_.mk 0 []),10)

def alh (bK:List qE) (name1:Str):Option (b_ × Int):=
 akz bK name1 BIG 0

def alP (t1:b_):Option (b_ × Int):=
 au (aad t1) fun x1=>
 if x1 then
  some (t1,0)
 else
  if t1.kind == 6 then
   au (idx t1.elem 0) fun e1=>
   some (e1,0)
  else
   some ((b_.mk 0 []),9)

def amb (t1:b_) (i1:b_):Option (b_ × Int):=
 au (Rv 3) fun x1=>
 au (ae4 i1 x1) fun anC=>
 au (Rv 4) fun x2=>
 au (ae4 i1 x2) fun text1=>
 if (t1.kind == 5) && anC then
  au (idx t1.elem 0) fun e1=>
  some (e1,0)
 else
  if (t1.kind == 6) && text1 then
   au (idx t1.elem 0) fun e2=>
   some (e2,0)
  else
   au (aad t1) fun x3=>
   if x3 && (anC || text1) then
    some (t1,0)
   else
    some ((b_.mk 0 []),9)

def ama (op1:Str) (t1:b_):Option (b_ × Int):=
 au (Rv 3) fun x1=>
 if op1 == ([33]:Str) then
  au (Rv 2) fun x2=>
  au (ae4 t1 x2) fun x3=>
  if !x3 then
   some ((b_.mk 0 []),9)
  else
   some (x2,0)
 else
  au (ae4 t1 x1) fun x4=>
  if !x4 then
   some ((b_.mk 0 []),9)
  else
   some (x1,0)

def ae9 (EC:Int) (c1:b_) (c2:b_):Option Bool:=
 au (Rv EC) fun x1=>
 au (ae4 c1 x1) fun x2=>
 if x2 then
  au (Rv EC) fun x3=>
  ae4 c2 x3
 else
  some false

def acU (a1:b_) (b1:b_) (EC:Int):Option Bool:=
 au (aad a1) fun x1=>
 au (
   if x1 || (a1.kind == EC) then
    au (aad b1) fun x2=>
    some (x2 || (b1.kind == EC))
   else
    some false) fun b2=>
 some (b2 && ((a1.kind == EC) || (b1.kind == EC)))

def ak1 (t1:b_):Option b_:=
 au (aad t1) fun x1=>
 if x1 then
  some t1
 else
  idx t1.elem 0

def alB (a1:b_) (b1:b_):Option Bool:=
 au (Ci a1) fun x1=>
 if x1 == 0 then
  au (Ci b1) fun x2=>
  some (x2 == 0)
 else
  some false

def ai0 (a1:b_) (b1:b_):Option b_:=
 au (alB a1 b1) fun x1=>
 if !x1 then
  abd 0
 else
  al1 a1 b1

def amM (a1:b_) (b1:b_):Option (b_ × Int):=
 au (aad a1) fun x1=>
 au (
   if x1 then
    aad b1
   else
    some false) fun b2=>
 if b2 then
  if (a1.kind == 0) || (b1.kind == 0) then
   au (Rv 0) fun x3=>
   some (x3,0)
  else
   au (Rv 7) fun x4=>
   some (x4,0)
 else
  au (acU a1 b1 3) fun x5=>
  if x5 then
   au (Rv 3) fun x6=>
   some (x6,0)
  else
   au (acU a1 b1 4) fun x7=>
   if x7 then
    au (Rv 4) fun x8=>
    some (x8,0)
   else
    au (acU a1 b1 5) fun x9=>
    if x9 then
     au (ak1 a1) fun CO=>
     au (ak1 b1) fun KP=>
     au (ai0 CO KP) fun TU=>
     au (aiX 5 TU) fun Sv=>
     some (Sv,0)
    else
     some ((b_.mk 0 []),9)

def amj (op1:Str) (a1:b_) (b1:b_):Option (b_ × Int):=
 if op1 == ([38,38]:Str) then
  au (ae9 2 a1 b1) fun x1=>
  if x1 then
   au (Rv 2) fun x2=>
   some (x2,0)
  else
   some ((b_.mk 0 []),9)
 else
  if op1 == ([124,124]:Str) then
   au (ae9 2 a1 b1) fun x3=>
   if x3 then
    au (Rv 2) fun x4=>
    some (x4,0)
   else
    some ((b_.mk 0 []),9)
  else
   if op1 == ([61,61]:Str) then
    au (Rv 2) fun x5=>
    some (x5,0)
   else
    if op1 == ([33,61]:Str) then
     au (Rv 2) fun x6=>
     some (x6,0)
    else
     if op1 == ([60]:Str) then
      au (aad a1) fun x7=>
      au (
        if x7 then
         aad b1
        else
         some false) fun b2=>
      au (
        if b2 then
         some true
        else
         acU a1 b1 3) fun b3=>
      au (
        if b3 then
         some true
        else
         acU a1 b1 4) fun b4=>
      if b4 then
       au (Rv 2) fun KP=>
       some (KP,0)
      else
       some ((b_.mk 0 []),9)
     else
      if op1 == ([60,61]:Str) then
       au (aad a1) fun TU=>
       au (
         if TU then
          aad b1
         else
          some false) fun b5=>
       au (
         if b5 then
          some true
         else
          acU a1 b1 3) fun b6=>
       au (
         if b6 then
          some true
         else
          acU a1 b1 4) fun b7=>
       if b7 then
        au (Rv 2) fun Xh=>
        some (Xh,0)
       else
        some ((b_.mk 0 []),9)
      else
       if op1 == ([62]:Str) then
        au (aad a1) fun x17=>
        au (
          if x17 then
           aad b1
          else
           some false) fun b8=>
        au (
          if b8 then
           some true
          else
           acU a1 b1 3) fun b9=>
        au (
          if b9 then
           some true
          else
           acU a1 b1 4) fun b10=>
        if b10 then
         au (Rv 2) fun x21=>
         some (x21,0)
        else
         some ((b_.mk 0 []),9)
       else
        if op1 == ([62,61]:Str) then
         au (aad a1) fun x22=>
         au (
           if x22 then
            aad b1
           else
            some false) fun b11=>
         au (
           if b11 then
            some true
           else
            acU a1 b1 3) fun b12=>
         au (
           if b12 then
            some true
           else
            acU a1 b1 4) fun b13=>
         if b13 then
          au (Rv 2) fun x26=>
          some (x26,0)
         else
          some ((b_.mk 0 []),9)
        else
         if op1 == ([45]:Str) then
          au (ae9 3 a1 b1) fun x27=>
          if x27 then
           au (Rv 3) fun x28=>
           some (x28,0)
          else
           some ((b_.mk 0 []),9)
         else
          if op1 == ([42]:Str) then
           au (ae9 3 a1 b1) fun x29=>
           if x29 then
            au (Rv 3) fun x30=>
            some (x30,0)
           else
            some ((b_.mk 0 []),9)
          else
           if op1 == ([47]:Str) then
            au (ae9 3 a1 b1) fun x31=>
            if x31 then
             au (Rv 3) fun x32=>
             some (x32,0)
            else
             some ((b_.mk 0 []),9)
           else
            if op1 == ([37]:Str) then
             au (ae9 3 a1 b1) fun x33=>
             if x33 then
              au (Rv 3) fun x34=>
              some (x34,0)
             else
              some ((b_.mk 0 []),9)
            else
             if op1 == ([43]:Str) then
              amM a1 b1
             else
              some ((b_.mk 0 []),9)

def aky (EC:Int) (Qd:List b_):Nat→Int→b_→Option (b_ × Int)
 | 0,_,_=>none
 | bW + 1,x2,ae8=>
  if decide (x2 < (Qd.length:Int)) then
   au (idx Qd x2) fun e1=>
   au (ai0 ae8 e1) fun x3=>
   aky EC Qd bW (bS (x2 + 1)) x3
  else
   au (aiX EC ae8) fun x4=>
   au (Ci x4) fun x5=>
   if x5 != 0 then
    some ((b_.mk 0 []),13)
   else
    some (x4,0)

def akK (EC:Int) (Qd:List b_):Option (b_ × Int):=
 au (Rv 7) fun x1=>
 aky EC Qd BIG 0 x1

def ami (abI:aj→List qE→Option (b_ × Int)) (ae5:aj→List qE→Option (b_ × Int)) (ae7:List aj→List qE→Option (List b_ × Int)) (e1:aj) (bK:List qE):Option (b_ × Int):=
 if e1.kind == 5 then
  ae5 e1 bK
 else
  fG (ae7 e1.args bK) fun Qd f1=>
  if f1 != 0 then
   some ((b_.mk 0 []),f1)
  else
   if e1.kind == 1 then
    au (amE e1.value) fun x3=>
    some (x3,0)
   else
    if e1.kind == 2 then
     alh bK e1.name
    else
     if e1.kind == 3 then
      au (idx Qd 0) fun e2=>
      alP e2
     else
      if e1.kind == 4 then
       au (idx Qd 0) fun e3=>
       au (idx Qd 1) fun e4=>
       amb e3 e4
      else
       if e1.kind == 6 then
        au (idx Qd 0) fun e5=>
        ama e1.name e5
       else
        if e1.kind == 7 then
         au (idx Qd 0) fun e6=>
         au (idx Qd 1) fun e7=>
         amj e1.name e6 e7
        else
         if e1.kind == 8 then
          au (idx Qd 0) fun e8=>
          au (Rv 2) fun Vo=>
          au (ae4 e8 Vo) fun x15=>
          if !x15 then
           some ((b_.mk 0 []),9)
          else
           au (idx Qd 1) fun e9=>
           au (idx Qd 2) fun e10=>
           au (ai0 e9 e10) fun Xh=>
           some (Xh,0)
         else
          if e1.kind == 9 then
           akK 5 Qd
          else
           akK 6 Qd

def aja (e1:aj) (afe:List (List b_)) (x1:b_) (Qd:List b_):Nat→Int→Option (b_ × Int)
 | 0,_=>none
 | bW + 1,x2=>
  if decide (x2 < (afe.length:Int)) then
   au (idx afe x2) fun al0=>
   au (akx Qd al0) fun x3=>
   if !x3 then
    aja e1 afe x1 Qd bW (bS (x2 + 1))
   else
    if !(e1.name == ([100,101,102,97,117,108,116]:Str)) then
     some (x1,0)
    else
     au (idx Qd 0) fun e3=>
     if e3.kind == 1 then
      au (idx Qd 1) fun e4=>
      some (e4,0)
     else
      au (idx Qd 0) fun e5=>
      some (e5,0)
  else
   some ((b_.mk 0 []),9)

def alQ (abI:aj→List qE→Option (b_ × Int)) (ae5:aj→List qE→Option (b_ × Int)) (ae7:List aj→List qE→Option (List b_ × Int)) (e1:aj) (bK:List qE):Option (b_ × Int):=
 fG (afd e1.name) fun afe x1=>
 if (afe.length:Int) == 0 then
  some ((b_.mk 0 []),10)
 else
  au (idx afe 0) fun e2=>
  if (e1.args.length:Int) != (e2.length:Int) then
   some ((b_.mk 0 []),1)
  else
   fG (ae7 e1.args bK) fun Qd f1=>
   if f1 != 0 then
    some ((b_.mk 0 []),f1)
   else
    aja e1 afe x1 Qd BIG 0

def akl (abI:aj→List qE→Option (b_ × Int)) (l1:List aj) (bK:List qE):Nat→List b_→Int→Option (List b_ × Int)
 | 0,_,_=>none
 | bW + 1,aT,x1=>
  if decide (x1 < (l1.length:Int)) then
   au (idx l1 x1) fun e1=>
   fG (abI e1 bK) fun x2 f1=>
   if f1 != 0 then
    some ([],f1)
   else
    au (app aT [x2]) fun Cq=>
    akl abI l1 bK bW Cq (bS (x1 + 1))
  else
   some (aT,0)

def am4 (abI:aj→List qE→Option (b_ × Int)) (ae5:aj→List qE→Option (b_ × Int)) (ae7:List aj→List qE→Option (List b_ × Int)) (l1:List aj) (bK:List qE):Option (List b_ × Int):=
 akl abI l1 bK BIG [] 0

mutual
def abL :Nat→aj→List qE→Option (b_ × Int)
 | 0,_,_=>none
 | k + 1,fV,jv=>ami (abL k) (aiY k) (ail k) fV jv
def aiY :Nat→aj→List qE→Option (b_ × Int)
 | 0,_,_=>none
 | k + 1,fV,jv=>alQ (abL k) (aiY k) (ail k) fV jv
def ail :Nat→List aj→List qE→Option (List b_ × Int)
 | 0,_,_=>none
 | k + 1,ul1,jv=>am4 (abL k) (aiY k) (ail k) ul1 jv
end

def ano (fV:aj) (jv:List qE):Option (b_ × Int):=abL BIG fV jv

def aqs (fV:aj) (jv:List qE):Option (b_ × Int):=aiY BIG fV jv

def aq7 (ul1:List aj) (jv:List qE):Option (List b_ × Int):=ail BIG ul1 jv

def alA (e1:aj) (bK:List qE):Option (b_ × Int):=
 au (amm bK) fun f1=>
 if f1 != 0 then
  some ((b_.mk 0 []),f1)
 else
  au (jY e1) fun f2=>
  if f2 != 0 then
   some ((b_.mk 0 []),f2)
  else
   fG (ano e1 bK) fun x1 f3=>
   if f3 != 0 then
    some ((b_.mk 0 []),f3)
   else
    au (Rv 7) fun x2=>
    au (ai0 x1 x2) fun x3=>
    some (x3,0)

def alI :Nat→Str→Str→b_→Option Str
 | 0,_,_,_=>none
 | bW + 1,s1,Ak,t2=>
  au (sG t2.kind) fun x2=>
  if x2 then
   au (Ef t2.kind) fun x3=>
   au (app x3 ([40]:Str)) fun x4=>
   au (app s1 x4) fun s2=>
   au (app Ak ([41]:Str)) fun aug=>
   au (idx t2.elem 0) fun e1=>
   alI bW s2 aug e1
  else
   au (Ef t2.kind) fun x5=>
   au (app s1 x5) fun x6=>
   app x6 Ak

def amY (t1:b_):Option Str:=
 au (Ci t1) fun x1=>
 if x1 != 0 then
  some ([]:Str)
 else
  alI BIG ([]:Str) ([]:Str) t1

def al9 (fZ:Str) (bK:List qE):Option (Str × Int):=
 F7 (pW fZ) fun x1 x2 f1=>
 if f1 != 0 then
  some (([]:Str),f1)
 else
  fG (alA x1 bK) fun x3 f2=>
  if f2 != 0 then
   some (([]:Str),f2)
  else
   au (amY x3) fun x4=>
   some (x4,f2)

def akr :Option Bool:=
 au (app ([34]:List UInt8) ([97]:Str)) fun x1=>
 au (app x1 ([34]:List UInt8)) fun a1=>
 au (app ([110,32,43,32,49,32,62,32,50,32,38,38,32,33,40,110,32,61,61,32]:Str) a1) fun x2=>
 au (app x2 ([41]:Str)) fun x3=>
 fG (al9 x3 [(qE.mk ([110]:Str) (b_.mk 3 [])),(qE.mk ([120]:Str) (b_.mk 2 []))]) fun s1 e1=>
 au (app ([91,49,44,32]:Str) a1) fun x4=>
 au (app x4 ([93]:Str)) fun x5=>
 fG (al9 x5 [(qE.mk ([110]:Str) (b_.mk 3 [])),(qE.mk ([120]:Str) (b_.mk 2 []))]) fun t1 f1=>
 au (app ([91,49,44,32]:Str) a1) fun x6=>
 au (app x6 ([93,91,48,93,32,43,32,49]:Str)) fun x7=>
 fG (al9 x7 [(qE.mk ([110]:Str) (b_.mk 3 [])),(qE.mk ([120]:Str) (b_.mk 2 []))]) fun u1 g1=>
 au (app ([110,32,43,32]:Str) a1) fun x8=>
 fG (al9 x8 [(qE.mk ([110]:Str) (b_.mk 3 [])),(qE.mk ([120]:Str) (b_.mk 2 []))]) fun x9 hx1=>
 fG (al9 ([121]:Str) [(qE.mk ([110]:Str) (b_.mk 3 [])),(qE.mk ([120]:Str) (b_.mk 2 []))]) fun CO xO=>
 au (app ([120,32,63,32,49,32,58,32]:Str) a1) fun KP=>
 fG (al9 KP [(qE.mk ([110]:Str) (b_.mk 3 [])),(qE.mk ([120]:Str) (b_.mk 2 []))]) fun v1 m1=>
 if (((((((((s1 == ([98,111,111,108]:Str)) && (e1 == 0)) && (t1 == ([108,105,115,116,40,97,110,121,41]:Str))) && (f1 == 0)) && (u1 == ([105,110,116]:Str))) && (g1 == 0)) && (hx1 == 9)) && (xO == 10)) && (v1 == ([97,110,121]:Str))) && (m1 == 0) then
  au (amm [(qE.mk ([110]:Str) (b_.mk 3 [])),(qE.mk ([120]:Str) (b_.mk 2 []))]) fun TU=>
  some (TU == 0)
 else
  some false

def aij (EC:Int):Option b_:=
 some (b_.mk EC [])

def Uv (EC:Int):Option Bool:=
 some ((EC == 5) || (EC == 6))

def af3 (EC:Int) (t1:b_):Option b_:=
 some (b_.mk EC [t1])

def alx (alG:b_→b_→Option b_) (a1:b_) (b1:b_):Option b_:=
 if a1.kind == 7 then
  some b1
 else
  if b1.kind == 7 then
   some a1
  else
   if a1.kind != b1.kind then
    aij 0
   else
    au (Uv a1.kind) fun x2=>
    if x2 then
     au (idx a1.elem 0) fun e1=>
     au (idx b1.elem 0) fun e2=>
     au (alG e1 e2) fun x3=>
     af3 a1.kind x3
    else
     some a1

def akE :Nat→b_→b_→Option b_
 | 0,_,_=>none
 | k + 1,wR,wQ=>alx (akE k) wR wQ

def am0 (wR:b_) (wQ:b_):Option b_:=akE BIG wR wQ

def amG (akZ:ah→Option b_) (v1:ah):Nat→Int→b_→Option b_
 | 0,_,_=>none
 | bW + 1,i1,t1=>
  if decide (i1 < (v1.aI.length:Int)) then
   au (idx v1.aI i1) fun e1=>
   au (akZ e1) fun x6=>
   au (am0 t1 x6) fun x7=>
   amG akZ v1 bW (bS (i1 + 1)) x7
  else
   if v1.kind == 5 then
    af3 6 t1
   else
    af3 5 t1

def anA (akZ:ah→Option b_) (v1:ah):Option b_:=
 if v1.kind == 0 then
  aij 1
 else
  if v1.kind == 1 then
   aij 2
  else
   if v1.kind == 2 then
    aij 3
   else
    if v1.kind == 3 then
     aij 4
    else
     au (aij 7) fun x5=>
     amG akZ v1 BIG 0 x5

def alK :Nat→ah→Option b_
 | 0,_=>none
 | k + 1,rZ=>anA (alK k) rZ

def aqc (rZ:ah):Option b_:=alK BIG rZ

def anT (v1:ah):Option b_:=
 au (xH v1) fun x1=>
 if x1 != 0 then
  aij 0
 else
  aqc v1

def Oo (Wn:b_→Int→Option Int) (t1:b_) (bP:Int):Option Int:=
 if decide (16 < bP) then
  some 13
 else
  if (decide (t1.kind < 0)) || (decide (7 < t1.kind)) then
   some 1
  else
   au (Uv t1.kind) fun x1=>
   if !x1 then
    if decide (0 < (t1.elem.length:Int)) then
     some 1
    else
     some 0
   else
    if (t1.elem.length:Int) != 1 then
     some 1
    else
     au (idx t1.elem 0) fun e1=>
     Wn e1 (bS (bP + 1))

def Er :Nat→b_→Int→Option Int
 | 0,_,_=>none
 | k + 1,ut1,gI=>Oo (Er k) ut1 gI

def ab7 (ut1:b_) (gI:Int):Option Int:=Er BIG ut1 gI

def Nf (t1:b_):Option Int:=
 ab7 t1 1

def anB (a1:b_) (b1:b_):Option Bool:=
 au (Nf a1) fun x1=>
 if x1 == 0 then
  au (Nf b1) fun x2=>
  some (x2 == 0)
 else
  some false

def alo (a1:b_) (b1:b_):Option b_:=
 au (anB a1 b1) fun x1=>
 if !x1 then
  aij 0
 else
  am0 a1 b1

def ai1 (gY:List av) (ajY:List b_):Nat→List qE→Int→Option (List qE)
 | 0,_,_=>none
 | bW + 1,l1,i1=>
  if decide (i1 < (gY.length:Int)) then
   au (idx gY i1) fun e1=>
   au (anT e1.value) fun x1=>
   au (
     if decide (i1 < (ajY.length:Int)) then
      au (idx ajY i1) fun e2=>
      au (Nf e2) fun x2=>
      some (x2 == 0)
     else
      some false) fun b1=>
   if b1 then
    au (idx ajY i1) fun e3=>
    au (alo x1 e3) fun x3=>
    au (idx gY i1) fun e4=>
    au (app l1 [(qE.mk e4.name x3)]) fun l2=>
    ai1 gY ajY bW l2 (bS (i1 + 1))
   else
    au (idx gY i1) fun e5=>
    au (app l1 [(qE.mk e5.name x1)]) fun l3=>
    ai1 gY ajY bW l3 (bS (i1 + 1))
  else
   some l1

def alL (gY:List av) (ajY:List b_):Option (List qE):=
 ai1 gY ajY BIG [] 0

def BL (bK:List av):Nat→Int→List (Str × Int)→Option Int
 | 0,_,_=>none
 | bW + 1,x1,y1=>
  if decide (x1 < (bK.length:Int)) then
   au (idx bK x1) fun e1=>
   au (jY (aj.mk 2 e1.name (ah.mk 0 false 0 ([]:Str) [] []) [] [])) fun x2=>
   if x2 != 0 then
    some 1
   else
    au (kr e1.value) fun e2=>
    if e2 != 0 then
     some e2
    else
     if decide (1 < (sV (wE y1 e1.name (bS ((sV y1 e1.name) + 1))) e1.name)) then
      some 7
     else
      BL bK bW (bS (x1 + 1)) (wE y1 e1.name (bS ((sV y1 e1.name) + 1)))
  else
   some 0

def wM (bK:List av):Option Int:=
 if decide (1024 < (bK.length:Int)) then
  some 3
 else
  BL bK BIG 0 []

def xQ (e1:aj) (bK:List av):Option (List av × Int):=
 au (wM bK) fun f1=>
 if f1 != 0 then
  some ([],f1)
 else
  au (jY e1) fun f2=>
  if f2 != 0 then
   some ([],f2)
  else
   some (bK,0)

def Ah (e1:Int):Option (fq aD Unit):=
 some (.bad (aD.mk e1))

def oN (s1:List av) (name1:Str):Nat→Int→Option (fq aD ah)
 | 0,_=>none
 | bW + 1,x1=>
  if decide (x1 < (s1.length:Int)) then
   au (idx s1 x1) fun e1=>
   if e1.name == name1 then
    some (.ok e1.value)
   else
    oN s1 name1 bW (bS (x1 + 1))
  else
   eO (Ah 10) (fun e2=>some (.bad e2)) fun _=>
   some (.ok (ah.mk 0 false 0 ([]:Str) [] []))

def sD (s1:List av) (name1:Str):Option (fq aD ah):=
 oN s1 name1 BIG 0

def mo (s1:Str):Option ah:=
 some (ah.mk 3 false 0 s1 [] [])

def jg (v1:ah) (EC:Int):Option Bool:=
 some (v1.kind == EC)

def eB (ok1:Bool) (e1:Int):Option (fq aD Unit):=
 if !ok1 then
  eO (Ah e1) (fun e2=>some (.bad e2)) fun _=>
  some (.ok ())
 else
  some (.ok ())

def iW (s1:List Str) (v1:Str):Nat→Int→Option Int
 | 0,_=>none
 | bW + 1,i1=>
  if decide (i1 < (s1.length:Int)) then
   au (idx s1 i1) fun e1=>
   if v1 == e1 then
    some i1
   else
    iW s1 v1 bW (bS (i1 + 1))
  else
   some (-1)

def jy (s1:List Str) (v1:Str):Option Int:=
 iW s1 v1 BIG 0

def kP (s1:List Str):Option (List Str):=
 app [] s1

def um (kK:ah→Option ah) (v1:ah):Nat→Int→ah→Option ah
 | 0,_,_=>none
 | bW + 1,x2,aT=>
  if decide (x2 < (v1.aI.length:Int)) then
   au (idx v1.aI x2) fun e1=>
   au (kK e1) fun x3=>
   au (app aT.aI [x3]) fun x4=>
   um kK v1 bW (bS (x2 + 1)) (ah.mk aT.kind aT.dh aT.bZ aT.bI x4 aT.keys)
  else
   some aT

def AA (kK:ah→Option ah) (v1:ah):Option ah:=
 au (kP v1.keys) fun x1=>
 um kK v1 BIG 0 (ah.mk v1.kind v1.dh v1.bZ v1.bI [] x1)

def lu :Nat→ah→Option ah
 | 0,_=>none
 | k + 1,rZ=>AA (lu k) rZ

def mU (rZ:ah):Option ah:=lu BIG rZ

def zJ (v1:ah) (key1:Str):Option (ah × Bool):=
 au (jy v1.keys key1) fun i1=>
 if ((v1.kind != 5) || (decide (i1 < 0))) || (decide ((v1.aI.length:Int)≤i1)) then
  some ((ah.mk 0 false 0 ([]:Str) [] []),false)
 else
  au (idx v1.aI i1) fun e1=>
  au (mU e1) fun x1=>
  some (x1,true)

def xw (m1:ah) (key1:ah):Option (fq aD ah):=
 au (jg m1 5) fun x1=>
 au (
   if x1 then
    jg key1 3
   else
    some false) fun b1=>
 eO (eB b1 9) (fun e1=>some (.bad e1)) fun _=>
 fG (zJ m1 key1.bI) fun x3 ok1=>
 eO (eB ok1 8) (fun e2=>some (.bad e2)) fun _=>
 some (.ok x3)

def vK (a1:ah) (i1:ah):Option (fq aD ah):=
 au (jg a1 4) fun x1=>
 au (
   if x1 then
    jg i1 2
   else
    some false) fun b1=>
 if b1 then
  eO (eB ((decide (0≤i1.bZ)) && (decide (i1.bZ < (a1.aI.length:Int)))) 8) (fun e1=>some (.bad e1)) fun _=>
  au (idx a1.aI i1.bZ) fun e2=>
  some (.ok e2)
 else
  eO (xw a1 i1) (fun e3=>some (.bad e3)) fun x3=>
  some (.ok x3)

def Ai (name1:Str):Option Int:=
 if name1 == ([108,101,110]:Str) then
  some 1
 else
  if name1 == ([108,111,119,101,114]:Str) then
   some 1
  else
   if name1 == ([117,112,112,101,114]:Str) then
    some 1
   else
    if name1 == ([115,116,114,105,110,103]:Str) then
     some 1
    else
     if name1 == ([105,110,116]:Str) then
      some 1
     else
      if name1 == ([107,101,121,115]:Str) then
       some 1
      else
       if name1 == ([99,111,110,116,97,105,110,115]:Str) then
        some 2
       else
        if name1 == ([106,111,105,110]:Str) then
         some 2
        else
         if name1 == ([115,112,108,105,116]:Str) then
          some 2
         else
          if name1 == ([115,116,97,114,116,115,119,105,116,104]:Str) then
           some 2
          else
           if name1 == ([101,110,100,115,119,105,116,104]:Str) then
            some 2
           else
            if name1 == ([100,101,102,97,117,108,116]:Str) then
             some 2
            else
             some 0

def qg (n1:Int):Option ah:=
 some (ah.mk 2 false n1 ([]:Str) [] [])

def DK (l1:List ah):Option ah:=
 some (ah.mk 4 false 0 ([]:Str) l1 [])

def zu (l1:List Str):Nat→Int→ah→Option ah
 | 0,_,_=>none
 | bW + 1,x1,aT=>
  if decide (x1 < (l1.length:Int)) then
   au (idx l1 x1) fun s1=>
   au (mo s1) fun x2=>
   au (app aT.aI [x2]) fun x3=>
   zu l1 bW (bS (x1 + 1)) (ah.mk aT.kind aT.dh aT.bZ aT.bI x3 aT.keys)
  else
   some aT

def Af (l1:List Str):Option ah:=
 zu l1 BIG 0 (ah.mk 4 false 0 ([]:Str) [] [])

def qb (b1:Bool):Option Str:=
 if b1 then
  some ([116,114,117,101]:Str)
 else
  some ([102,97,108,115,101]:Str)

def strconv_FormatBool (b1:Bool):Option Str:=
 qb b1

def mR (s1:Str):Nat→Int→Str→Option Str
 | 0,_,_=>none
 | bW + 1,i1,b2=>
  if decide (i1 < (s1.length:Int)) then
   au (idx s1 i1) fun c1=>
   if ((c1.toNat:Int) == 34) || ((c1.toNat:Int) == 92) then
    au (app b2 [92]) fun b3=>
    au (app b3 [c1]) fun b4=>
    mR s1 bW (bS (i1 + 1)) b4
   else
    if (c1.toNat:Int) == 10 then
     au (app b2 ([92,110]:Str)) fun b5=>
     mR s1 bW (bS (i1 + 1)) b5
    else
     if (c1.toNat:Int) == 9 then
      au (app b2 ([92,116]:Str)) fun b6=>
      mR s1 bW (bS (i1 + 1)) b6
     else
      if (decide (32≤(c1.toNat:Int))) && (decide ((c1.toNat:Int)≤126)) then
       au (app b2 [c1]) fun b7=>
       mR s1 bW (bS (i1 + 1)) b7
      else
       au (app b2 ([92,120]:Str)) fun b8=>
       au (idx ([48,49,50,51,52,53,54,55,56,57,97,98,99,100,101,102]:Str) ((c1 / 16).toNat:Int)) fun x1=>
       au (app b8 [x1]) fun b9=>
       au (idx ([48,49,50,51,52,53,54,55,56,57,97,98,99,100,101,102]:Str) ((c1 % 16).toNat:Int)) fun x2=>
       au (app b9 [x2]) fun b10=>
       mR s1 bW (bS (i1 + 1)) b10
  else
   app b2 [34]

def Bj (s1:Str):Option Str:=
 au (app [] [34]) fun b1=>
 mR s1 BIG 0 b1

def strings_Join (l1:List Str) (t1:Str):Option Str:=
 if l1.length≤140737488355328∧(lX l1 t1).length≤140737488355328 then some (lX l1 t1) else none

def qI (fI:ah→Option Str) (v1:ah):Nat→List Str→Int→Option Str
 | 0,_,_=>none
 | bW + 1,nO,i1=>
  if decide (i1 < (v1.aI.length:Int)) then
   au (idx v1.aI i1) fun e1=>
   if v1.kind == 5 then
    au (idx v1.keys i1) fun e2=>
    au (Bj e2) fun x4=>
    au (app x4 ([58,32]:Str)) fun x5=>
    au (fI e1) fun x6=>
    au (app x5 x6) fun x7=>
    au (app nO ([x7]:List Str)) fun KT=>
    qI fI v1 bW KT (bS (i1 + 1))
   else
    au (fI e1) fun x8=>
    au (app nO ([x8]:List Str)) fun KS=>
    qI fI v1 bW KS (bS (i1 + 1))
  else
   au (strings_Join nO ([44,32]:Str)) fun s3=>
   if v1.kind == 5 then
    au (app ([123]:Str) s3) fun x9=>
    app x9 ([125]:Str)
   else
    au (app ([91]:Str) s3) fun KP=>
    app KP ([93]:Str)

def u_ (fI:ah→Option Str) (v1:ah):Nat→List Str→Int→Option Str
 | 0,_,_=>none
 | EB + 1,E9,i2=>
  if decide (i2 < (v1.aI.length:Int)) then
   au (idx v1.aI i2) fun e3=>
   au (idx v1.keys i2) fun e4=>
   au (Bj e4) fun Sv=>
   au (app Sv ([58,32]:Str)) fun Vo=>
   au (fI e3) fun x15=>
   au (app Vo x15) fun Xh=>
   au (app E9 ([Xh]:List Str)) fun ZQ=>
   u_ fI v1 EB ZQ (bS (i2 + 1))
  else
   au (strings_Join E9 ([44,32]:Str)) fun s5=>
   au (app ([123]:Str) s5) fun x17=>
   app x17 ([125]:Str)

def wO (fI:ah→Option Str) (v1:ah):Option Str:=
 if v1.kind == 1 then
  strconv_FormatBool v1.dh
 else
  if v1.kind == 2 then
   strconv_Itoa v1.bZ
  else
   if v1.kind == 3 then
    Bj v1.bI
   else
    if v1.kind == 4 then
     qI fI v1 BIG [] 0
    else
     if v1.kind == 5 then
      u_ fI v1 BIG [] 0
     else
      some ([110,117,108,108]:Str)

def pz :Nat→ah→Option Str
 | 0,_=>none
 | k + 1,rZ=>wO (pz k) rZ

def Az (rZ:ah):Option Str:=pz BIG rZ

def Df (v1:ah):Option (Str × Int):=
 if (v1.kind == 4) || (v1.kind == 5) then
  some (([]:Str),9)
 else
  au (kr v1) fun e1=>
  if e1 != 0 then
   some (([]:Str),e1)
  else
   if v1.kind == 0 then
    some (([]:Str),0)
   else
    if v1.kind == 3 then
     some (v1.bI,0)
    else
     au (Az v1) fun x1=>
     some (x1,0)

def qW (s1:Str) (lo1:UInt8) (hi1:UInt8) (pq:Int):Nat→Int→Str→Option Str
 | 0,_,_=>none
 | bW + 1,i1,b1=>
  if decide (i1 < (s1.length:Int)) then
   au (idx s1 i1) fun x1=>
   au (
     if decide ((lo1.toNat:Int)≤(x1.toNat:Int)) then
      au (idx s1 i1) fun x2=>
      some (decide ((x2.toNat:Int)≤(hi1.toNat:Int)))
     else
      some false) fun b2=>
   if b2 then
    au (idx s1 i1) fun x3=>
    au (app b1 [(Ft.byteOf (bS ((x3.toNat:Int) + pq)))]) fun b3=>
    qW s1 lo1 hi1 pq bW (bS (i1 + 1)) b3
   else
    au (idx s1 i1) fun x4=>
    au (app b1 [x4]) fun b4=>
    qW s1 lo1 hi1 pq bW (bS (i1 + 1)) b4
  else
   some b1

def xR (s1:Str) (lo1:UInt8) (hi1:UInt8) (pq:Int):Option Str:=
 qW s1 lo1 hi1 pq BIG 0 []

def uQ (s1:Str):Option (Int × Bool):=
 fG (strconv_Atoi s1) fun n1 aeu=>
 au (
   if aeu.isSome then
    some true
   else
    au (strconv_Itoa n1) fun x1=>
    some (!(x1 == s1))) fun b1=>
 if (b1 || (decide (n1 < (-9007199254740992)))) || (decide (9007199254740992 < n1)) then
  some (0,false)
 else
  some (n1,true)

def Jj (name1:Str) (v1:ah):Option (fq aD ah):=
 if name1 == ([108,101,110]:Str) then
  au (jg v1 3) fun x1=>
  au (
    if x1 then
     some true
    else
     jg v1 4) fun b1=>
  au (
    if b1 then
     some true
    else
     jg v1 5) fun b2=>
  eO (eB b2 9) (fun e1=>some (.bad e1)) fun _=>
  au (qg (bS ((v1.bI.length:Int) + (v1.aI.length:Int)))) fun x4=>
  some (.ok x4)
 else
  if name1 == ([107,101,121,115]:Str) then
   au (jg v1 5) fun x5=>
   eO (eB x5 9) (fun e2=>some (.bad e2)) fun _=>
   au (Af v1.keys) fun x6=>
   some (.ok x6)
  else
   if name1 == ([115,116,114,105,110,103]:Str) then
    fG (Df v1) fun t1 e3=>
    eO (eB (e3 == 0) e3) (fun e4=>some (.bad e4)) fun _=>
    au (mo t1) fun x7=>
    some (.ok x7)
   else
    au (jg v1 3) fun x8=>
    eO (eB x8 9) (fun e5=>some (.bad e5)) fun _=>
    if name1 == ([108,111,119,101,114]:Str) then
     au (xR v1.bI 65 90 32) fun x9=>
     au (mo x9) fun CO=>
     some (.ok CO)
    else
     if name1 == ([117,112,112,101,114]:Str) then
      au (xR v1.bI 97 122 (-32)) fun KP=>
      au (mo KP) fun TU=>
      some (.ok TU)
     else
      fG (uQ v1.bI) fun n1 ok1=>
      eO (eB ok1 1) (fun e6=>some (.bad e6)) fun _=>
      au (qg n1) fun Sv=>
      some (.ok Sv)

def uj (b1:Bool):Option Int:=
 if b1 then
  some 1
 else
  some 0

def cO (w_:List ah) (zP:List ah) (Jr:ah→ah→Option Int):Nat→Int→Option Int
 | 0,_=>none
 | bW + 1,i1=>
  if decide (i1 < (w_.length:Int)) then
   au (idx w_ i1) fun e1=>
   if decide ((zP.length:Int)≤i1) then
    some 1
   else
    au (idx zP i1) fun e2=>
    au (Jr e1 e2) fun c1=>
    if c1 != 0 then
     some c1
    else
     cO w_ zP Jr bW (bS (i1 + 1))
  else
   if decide ((w_.length:Int) < (zP.length:Int)) then
    some (-1)
   else
    some 0

def bT (w_:List ah) (zP:List ah) (Jr:ah→ah→Option Int):Option Int:=
 cO w_ zP Jr BIG 0

def dY (w_:List Str) (zP:List Str) (Jr:Str→Str→Option Int):Nat→Int→Option Int
 | 0,_=>none
 | bW + 1,i1=>
  if decide (i1 < (w_.length:Int)) then
   au (idx w_ i1) fun ajh=>
   if decide ((zP.length:Int)≤i1) then
    some 1
   else
    au (idx zP i1) fun ajg=>
    au (Jr ajh ajg) fun c1=>
    if c1 != 0 then
     some c1
    else
     dY w_ zP Jr bW (bS (i1 + 1))
  else
   if decide ((w_.length:Int) < (zP.length:Int)) then
    some (-1)
   else
    some 0

def eT (w_:List Str) (zP:List Str) (Jr:Str→Str→Option Int):Option Int:=
 dY w_ zP Jr BIG 0

def wP (j4:ah→ah→Option Int) (a1:ah) (b1:ah):Option Int:=
 au (cmp_Compare_int a1.kind b1.kind) fun c1=>
 if c1 != 0 then
  some c1
 else
  if a1.kind == 1 then
   au (uj a1.dh) fun x1=>
   au (uj b1.dh) fun x2=>
   cmp_Compare_int x1 x2
  else
   if a1.kind == 2 then
    cmp_Compare_int a1.bZ b1.bZ
   else
    if a1.kind == 3 then
     mq a1.bI b1.bI
    else
     if a1.kind == 4 then
      bT a1.aI b1.aI j4
     else
      if a1.kind == 5 then
       au (eT a1.keys b1.keys jD) fun c2=>
       if c2 != 0 then
        some c2
       else
        bT a1.aI b1.aI j4
      else
       some 0

def jr :Nat→ah→ah→Option Int
 | 0,_,_=>none
 | k + 1,wR,wQ=>wP (jr k) wR wQ

def wu (wR:ah) (wQ:ah):Option Int:=jr BIG wR wQ

def mV (a1:ah) (b1:ah):Option Bool:=
 au (wu a1 b1) fun x1=>
 some (x1 == 0)

def pI (a1:ah) (b1:ah) (xO:Int):Option Bool:=
 some ((a1.kind == xO) && (b1.kind == xO))

def strings_Contains (s1:Str) (t1:Str):Option Bool:=
 if s1.length < 4294967281 then some (jF s1 t1).isSome else none

def oz (a1:ah) (b1:ah):Nat→Int→Option (fq aD Bool)
 | 0,_=>none
 | bW + 1,x2=>
  if decide (x2 < (a1.aI.length:Int)) then
   au (idx a1.aI x2) fun e1=>
   au (mV e1 b1) fun x3=>
   if x3 then
    some (.ok true)
   else
    oz a1 b1 bW (bS (x2 + 1))
  else
   some (.ok false)

def wK (a1:ah) (b1:ah):Option (fq aD Bool):=
 au (jg a1 4) fun x1=>
 if x1 then
  oz a1 b1 BIG 0
 else
  au (pI a1 b1 3) fun x4=>
  if x4 then
   au (strings_Contains a1.bI b1.bI) fun x5=>
   some (.ok x5)
  else
   au (jg a1 5) fun x6=>
   au (
     if x6 then
      jg b1 3
     else
      some false) fun b2=>
   eO (eB b2 9) (fun e2=>some (.bad e2)) fun _=>
   fG (zJ a1 b1.bI) fun x8 ok1=>
   some (.ok ok1)

def fT (b1:Bool):Option ah:=
 some (ah.mk 1 b1 0 ([]:Str) [] [])

def uR (a1:ah) (b1:ah):Nat→Int→List Str→Int→Option (fq aD ah)
 | 0,_,_,_=>none
 | bW + 1,n1,l1,x3=>
  if decide (x3 < (a1.aI.length:Int)) then
   au (idx a1.aI x3) fun e2=>
   au (jg e2 3) fun x4=>
   eO (eB x4 9) (fun e3=>some (.bad e3)) fun _=>
   au (app l1 ([e2.bI]:List Str)) fun l2=>
   uR a1 b1 bW (bS (n1 + (e2.bI.length:Int))) l2 (bS (x3 + 1))
  else
   eO (eB (decide ((bS (n1 + (bS ((b1.bI.length:Int) * (if 0 < (bS ((l1.length:Int) - 1)) then (bS ((l1.length:Int) - 1)) else 0)))))≤4096)) 3) (fun e4=>some (.bad e4)) fun _=>
   au (strings_Join l1 b1.bI) fun x5=>
   au (mo x5) fun x6=>
   some (.ok x6)

def BK (a1:ah) (b1:ah):Option (fq aD ah):=
 au (jg a1 4) fun x1=>
 au (
   if x1 then
    jg b1 3
   else
    some false) fun b2=>
 eO (eB b2 9) (fun e1=>some (.bad e1)) fun _=>
 uR a1 b1 BIG 0 [] 0

def qV (s1:Str) (yJ:Str):Option Bool:=
 if decide ((yJ.length:Int)≤(s1.length:Int)) then
  au (sl s1 0 (yJ.length:Int)) fun x1=>
  some (x1 == yJ)
 else
  some false

def strings_HasPrefix (s1:Str) (yJ:Str):Option Bool:=
 qV s1 yJ

def qU (s1:Str) (yu:Str):Option Bool:=
 if decide ((yu.length:Int)≤(s1.length:Int)) then
  au (sl s1 (bS ((s1.length:Int) - (yu.length:Int))) (s1.length:Int)) fun x1=>
  some (x1 == yu)
 else
  some false

def strings_HasSuffix (s1:Str) (yu:Str):Option Bool:=
 qU s1 yu

def strings_Split (s1:Str) (t1:Str):Option (List Str):=
 if s1.length < 4294967281∧t1≠[] then some (jh t1 (s1.length + 1) s1) else none

def Ji (name1:Str) (a1:ah) (b1:ah):Option (fq aD ah):=
 if name1 == ([100,101,102,97,117,108,116]:Str) then
  au (jg a1 0) fun x1=>
  if x1 then
   some (.ok b1)
  else
   some (.ok a1)
 else
  if name1 == ([99,111,110,116,97,105,110,115]:Str) then
   eO (wK a1 b1) (fun e1=>some (.bad e1)) fun x2=>
   au (fT x2) fun x3=>
   some (.ok x3)
  else
   if name1 == ([106,111,105,110]:Str) then
    eO (BK a1 b1) (fun e2=>some (.bad e2)) fun x4=>
    some (.ok x4)
   else
    au (pI a1 b1 3) fun x5=>
    eO (eB x5 9) (fun e3=>some (.bad e3)) fun _=>
    if name1 == ([115,116,97,114,116,115,119,105,116,104]:Str) then
     au (strings_HasPrefix a1.bI b1.bI) fun x6=>
     au (fT x6) fun x7=>
     some (.ok x7)
    else
     if name1 == ([101,110,100,115,119,105,116,104]:Str) then
      au (strings_HasSuffix a1.bI b1.bI) fun x8=>
      au (fT x8) fun x9=>
      some (.ok x9)
     else
      eO (eB (!(b1.bI == ([]:Str))) 1) (fun e4=>some (.bad e4)) fun _=>
      au (strings_Split a1.bI b1.bI) fun l1=>
      eO (eB (decide ((l1.length:Int)≤1024)) 3) (fun e5=>some (.bad e5)) fun _=>
      au (Af l1) fun CO=>
      some (.ok CO)

def uP (v1:ah):Option (fq aD Bool):=
 au (jg v1 1) fun x1=>
 eO (eB x1 9) (fun e1=>some (.bad e1)) fun _=>
 some (.ok v1.dh)

def DJ (op1:Str) (v1:ah):Option (fq aD ah):=
 if op1 == ([33]:Str) then
  eO (uP v1) (fun e1=>some (.bad e1)) fun x1=>
  au (fT (!x1)) fun x2=>
  some (.ok x2)
 else
  au (jg v1 2) fun x3=>
  eO (eB x3 9) (fun e2=>some (.bad e2)) fun _=>
  au (qg (bS (0 - v1.bZ))) fun x4=>
  some (.ok x4)

def nP (a1:ah) (b1:ah):Option (fq aD Int):=
 au (pI a1 b1 2) fun x1=>
 au (
   if x1 then
    some true
   else
    pI a1 b1 3) fun b2=>
 eO (eB b2 9) (fun e1=>some (.bad e1)) fun _=>
 au (wu a1 b1) fun x3=>
 some (.ok x3)

def rG (n1:Int):Option (fq aD ah):=
 eO (eB ((decide ((-9007199254740992)≤n1)) && (decide (n1≤9007199254740992))) 11) (fun e1=>some (.bad e1)) fun _=>
 au (qg n1) fun x1=>
 some (.ok x1)

def FZ (a1:ah) (b1:ah):Option (fq aD ah):=
 au (pI a1 b1 2) fun x1=>
 if x1 then
  eO (rG (bS (a1.bZ + b1.bZ))) (fun e1=>some (.bad e1)) fun x2=>
  some (.ok x2)
 else
  au (pI a1 b1 3) fun x3=>
  if x3 then
   eO (eB (decide ((bS ((a1.bI.length:Int) + (b1.bI.length:Int)))≤4096)) 3) (fun e2=>some (.bad e2)) fun _=>
   au (app a1.bI b1.bI) fun x4=>
   au (mo x4) fun x5=>
   some (.ok x5)
  else
   au (pI a1 b1 4) fun x6=>
   eO (eB x6 9) (fun e3=>some (.bad e3)) fun _=>
   eO (eB (decide ((bS ((a1.aI.length:Int) + (b1.aI.length:Int)))≤1024)) 3) (fun e4=>some (.bad e4)) fun _=>
   au (app [] a1.aI) fun l1=>
   au (app l1 b1.aI) fun x7=>
   au (DK x7) fun x8=>
   some (.ok x8)

def I8 (n1:Int):Option (BitVec 64):=
 if decide (n1 < 0) then
  some (-(BitVec.ofInt 64 n1))
 else
  some (BitVec.ofInt 64 n1)

def Cr (a1:Int) (b1:Int):Option jo:=
 au (I8 a1) fun x1=>
 au (I8 b1) fun y1=>
 au (some ((x1 &&& (4294967295:BitVec 64)) * (y1 &&& (4294967295:BitVec 64)))) fun BZ=>
 au (some ((x1 >>> 32) * (y1 &&& (4294967295:BitVec 64)))) fun x2=>
 au (some ((x1 &&& (4294967295:BitVec 64)) * (y1 >>> 32))) fun x3=>
 au (some ((x2 + (BZ >>> 32)) &&& (4294967295:BitVec 64))) fun x4=>
 au (some (((x1 >>> 32) * (y1 >>> 32)) + ((x2 + (BZ >>> 32)) >>> 32))) fun x5=>
 au (some (((x3 + x4) <<< 32) ||| (BZ &&& (4294967295:BitVec 64)))) fun x6=>
 some (jo.mk ([(x5 + ((x3 + x4) >>> 32)),x6]:List (BitVec 64)) ((!((decide (a1 < 0)) == (decide (b1 < 0)))) && (!decide (([((x5 + ((x3 + x4) >>> 32)).toNat:Int),(x6.toNat:Int)]:List Int)=([0,0]:List Int)))))

def rP (p1:jo):Option (Int × Bool):=
 if ((p1.half.getD 0 0).toNat:Int) != 0 then
  some (0,false)
 else
  if p1.neg && (decide (((p1.half.getD 1 0).toNat:Int)≤9223372036854775808)) then
   some ((bS ((-(p1.half.getD 1 0)).toNat:Int)),true)
  else
   if (!p1.neg) && (decide (((p1.half.getD 1 0).toNat:Int)≤9223372036854775807)) then
    some ((bS ((p1.half.getD 1 0).toNat:Int)),true)
   else
    some (0,false)

def VX (afV:Bool):Option Int:=
 if afV then
  some (-9223372036854775808)
 else
  some 9223372036854775807

def Md (a1:Int) (b1:Int):Option Int:=
 au (Cr a1 b1) fun x1=>
 fG (rP x1) fun n1 ok1=>
 if ok1 then
  some n1
 else
  VX x1.neg

def pJ (op1:Str) (a1:ah) (b1:ah):Option (fq aD ah):=
 au (pI a1 b1 2) fun x1=>
 eO (eB x1 9) (fun e1=>some (.bad e1)) fun _=>
 if op1 == ([45]:Str) then
  eO (rG (bS (a1.bZ - b1.bZ))) (fun e2=>some (.bad e2)) fun x2=>
  some (.ok x2)
 else
  if op1 == ([42]:Str) then
   au (Md a1.bZ b1.bZ) fun x3=>
   eO (rG x3) (fun e3=>some (.bad e3)) fun x4=>
   some (.ok x4)
  else
   eO (eB (b1.bZ != 0) 12) (fun e4=>some (.bad e4)) fun _=>
   if op1 == ([47]:Str) then
    au (chk (!(b1.bZ == 0))) fun _=>
    eO (rG (bS ((a1.bZ:Int).tdiv b1.bZ))) (fun e5=>some (.bad e5)) fun x5=>
    some (.ok x5)
   else
    au (chk (!(b1.bZ == 0))) fun _=>
    au (qg ((a1.bZ:Int).tmod b1.bZ)) fun x6=>
    some (.ok x6)

def rY (bP:Int) (x1:ah):Int:=if (x1.kind == 4 || x1.kind == 5) && ((x1.aI.length:Int) == 0) then bS (bP + 1) else bP
def iK (agV:Int) (bP:Int) (x1:ah):Option (Bool × Int):=
 some (true,if agV < rY bP x1 then rY bP x1 else agV)

def yj (v1:ah):Option Int:=
 fG (Db iK 0 v1 1) fun _ s1=>
 some s1

def mF (y1:av) (c1:av):Option Bool:=
 some (y1.name == c1.name)

def gJ (s1:List av) (f1:av→Option Bool):Nat→Int→Option Int
 | 0,_=>none
 | bW + 1,i1=>
  if decide (i1 < (s1.length:Int)) then
   au (idx s1 i1) fun e1=>
   au (f1 e1) fun x1=>
   if x1 then
    some i1
   else
    gJ s1 f1 bW (bS (i1 + 1))
  else
   some (-1)

def jk (s1:List av) (f1:av→Option Bool):Option Int:=
 gJ s1 f1 BIG 0

def gK (s1:List av) (f1:av→Option Bool):Option Bool:=
 au (jk s1 f1) fun x1=>
 some (decide (0≤x1))

def Bn (gY:List av) (i1:Int):Option Int:=
 au (idx gY i1) fun e1=>
 if (decide ((e1.name.length:Int) < 1)) || (decide (64 < (e1.name.length:Int))) then
  some 1
 else
  au (kr e1.value) fun e2=>
  if e2 != 0 then
   some e2
  else
   au (yj e1.value) fun x1=>
   if decide (16≤x1) then
    some 13
   else
    au (sl gY 0 i1) fun x2=>
    au (gK x2 (fun z0=>mF z0 e1)) fun x3=>
    if x3 then
     some 7
    else
     some 0

def gB (s1:List av):Option (List av):=
 app [] s1

def Oe (a1:av) (b1:av):Option Int:=
 jD a1.name b1.name

def vg (sZ:List av):Nat→Int→ah→Option (ah × Int)
 | 0,_,_=>none
 | EB + 1,x1,aT=>
  if decide (x1 < (sZ.length:Int)) then
   au (idx sZ x1) fun e2=>
   au (app aT.keys ([e2.name]:List Str)) fun x2=>
   au (mU e2.value) fun x3=>
   au (app aT.aI [x3]) fun x4=>
   vg sZ EB (bS (x1 + 1)) (ah.mk aT.kind aT.dh aT.bZ aT.bI x4 x2)
  else
   some (aT,0)

def vk (gY:List av):Nat→Int→Option (ah × Int)
 | 0,_=>none
 | bW + 1,i1=>
  if decide (i1 < (gY.length:Int)) then
   au (Bn gY i1) fun e1=>
   if e1 != 0 then
    some ((ah.mk 0 false 0 ([]:Str) [] []),e1)
   else
    vk gY bW (bS (i1 + 1))
  else
   au (gB gY) fun Pq=>
   au (Uk (fun x=>x.name) Pq) fun sZ=>
   vg sZ BIG 0 (ah.mk 5 false 0 ([]:Str) [] [])

def CQ (gY:List av):Option (ah × Int):=
 if decide (1024 < (gY.length:Int)) then
  some ((ah.mk 0 false 0 ([]:Str) [] []),3)
 else
  vk gY BIG 0

def tK (bB:List av→aj→Option (fq aD ah)) (dx:List av→aj→Option (fq aD ah)) (dw:List av→List aj→Option (fq aD (List ah))) (bX:List av→aj→Option (fq aD ah)) (bR:List av→aj→Option (fq aD ah)) (s1:List av) (e1:aj):Option (fq aD ah):=
 if e1.kind == 1 then
  some (.ok e1.value)
 else
  if e1.kind == 2 then
   eO (sD s1 e1.name) (fun e2=>some (.bad e2)) fun x1=>
   some (.ok x1)
  else
   if e1.kind == 3 then
    au (idx e1.args 0) fun e3=>
    eO (bB s1 e3) (fun e4=>some (.bad e4)) fun x2=>
    au (mo e1.name) fun x3=>
    eO (xw x2 x3) (fun e5=>some (.bad e5)) fun x4=>
    some (.ok x4)
   else
    if e1.kind == 4 then
     au (idx e1.args 0) fun e6=>
     eO (bB s1 e6) (fun e7=>some (.bad e7)) fun x5=>
     au (idx e1.args 1) fun e8=>
     eO (bB s1 e8) (fun e9=>some (.bad e9)) fun x6=>
     eO (vK x5 x6) (fun e10=>some (.bad e10)) fun x7=>
     some (.ok x7)
    else
     if e1.kind == 5 then
      eO (dx s1 e1) (fun e11=>some (.bad e11)) fun x8=>
      some (.ok x8)
     else
      if e1.kind == 6 then
       au (idx e1.args 0) fun e12=>
       eO (bB s1 e12) (fun e13=>some (.bad e13)) fun x9=>
       eO (DJ e1.name x9) (fun e14=>some (.bad e14)) fun CO=>
       some (.ok CO)
      else
       if e1.kind == 7 then
        eO (bX s1 e1) (fun e15=>some (.bad e15)) fun KP=>
        some (.ok KP)
       else
        if e1.kind == 8 then
         au (idx e1.args 0) fun e16=>
         eO (bB s1 e16) (fun e17=>some (.bad e17)) fun TU=>
         eO (uP TU) (fun e18=>some (.bad e18)) fun Sv=>
         if Sv then
          au (idx e1.args 1) fun e19=>
          eO (bB s1 e19) (fun e20=>some (.bad e20)) fun Vo=>
          some (.ok Vo)
         else
          au (idx e1.args 2) fun e21=>
          eO (bB s1 e21) (fun e22=>some (.bad e22)) fun x15=>
          some (.ok x15)
        else
         if e1.kind == 9 then
          eO (dw s1 e1.args) (fun e23=>some (.bad e23)) fun Xh=>
          au (DK Xh) fun x17=>
          au (kr x17) fun x18=>
          eO (eB (x18 == 0) 13) (fun e24=>some (.bad e24)) fun _=>
          some (.ok x17)
         else
          eO (bR s1 e1) (fun e25=>some (.bad e25)) fun x19=>
          some (.ok x19)

def qd (bB:List av→aj→Option (fq aD ah)) (dx:List av→aj→Option (fq aD ah)) (dw:List av→List aj→Option (fq aD (List ah))) (bX:List av→aj→Option (fq aD ah)) (bR:List av→aj→Option (fq aD ah)) (s1:List av) (e1:aj):Option (fq aD ah):=
 au (Ai e1.name) fun n1=>
 eO (eB (decide (0 < n1)) 10) (fun e2=>some (.bad e2)) fun _=>
 eO (eB ((e1.args.length:Int) == n1) 1) (fun e3=>some (.bad e3)) fun _=>
 eO (dw s1 e1.args) (fun e4=>some (.bad e4)) fun args1=>
 if n1 == 1 then
  au (idx args1 0) fun e5=>
  eO (Jj e1.name e5) (fun e6=>some (.bad e6)) fun x1=>
  some (.ok x1)
 else
  au (idx args1 0) fun e7=>
  au (idx args1 1) fun e8=>
  eO (Ji e1.name e7 e8) (fun e9=>some (.bad e9)) fun x2=>
  some (.ok x2)

def nC (bB:List av→aj→Option (fq aD ah)) (s1:List av) (l1:List aj):Nat→List ah→Int→Option (fq aD (List ah))
 | 0,_,_=>none
 | bW + 1,aT,x1=>
  if decide (x1 < (l1.length:Int)) then
   au (idx l1 x1) fun e1=>
   eO (bB s1 e1) (fun e2=>some (.bad e2)) fun x2=>
   au (app aT [x2]) fun Cq=>
   nC bB s1 l1 bW Cq (bS (x1 + 1))
  else
   some (.ok aT)

def Ag (bB:List av→aj→Option (fq aD ah)) (dx:List av→aj→Option (fq aD ah)) (dw:List av→List aj→Option (fq aD (List ah))) (bX:List av→aj→Option (fq aD ah)) (bR:List av→aj→Option (fq aD ah)) (s1:List av) (l1:List aj):Option (fq aD (List ah)):=
 nC bB s1 l1 BIG [] 0

def nS (bB:List av→aj→Option (fq aD ah)) (dx:List av→aj→Option (fq aD ah)) (dw:List av→List aj→Option (fq aD (List ah))) (bX:List av→aj→Option (fq aD ah)) (bR:List av→aj→Option (fq aD ah)) (s1:List av) (e1:aj):Option (fq aD ah):=
 au (idx e1.args 0) fun e2=>
 eO (bB s1 e2) (fun e3=>some (.bad e3)) fun x1=>
 if (e1.name == ([38,38]:Str)) || (e1.name == ([124,124]:Str)) then
  eO (uP x1) (fun e4=>some (.bad e4)) fun x2=>
  if x2 == (e1.name == ([124,124]:Str)) then
   some (.ok x1)
  else
   au (idx e1.args 1) fun e5=>
   eO (bB s1 e5) (fun e6=>some (.bad e6)) fun x3=>
   eO (uP x3) (fun e7=>some (.bad e7)) fun x4=>
   au (fT x4) fun x5=>
   some (.ok x5)
 else
  au (idx e1.args 1) fun e8=>
  eO (bB s1 e8) (fun e9=>some (.bad e9)) fun x6=>
  if e1.name == ([61,61]:Str) then
   au (mV x1 x6) fun x7=>
   au (fT x7) fun x8=>
   some (.ok x8)
  else
   if e1.name == ([33,61]:Str) then
    au (mV x1 x6) fun x9=>
    au (fT (!x9)) fun CO=>
    some (.ok CO)
   else
    if e1.name == ([60]:Str) then
     eO (nP x1 x6) (fun e10=>some (.bad e10)) fun KP=>
     au (fT (decide (KP < 0))) fun TU=>
     some (.ok TU)
    else
     if e1.name == ([60,61]:Str) then
      eO (nP x1 x6) (fun e11=>some (.bad e11)) fun Sv=>
      au (fT (decide (Sv≤0))) fun Vo=>
      some (.ok Vo)
     else
      if e1.name == ([62]:Str) then
       eO (nP x1 x6) (fun e12=>some (.bad e12)) fun x15=>
       au (fT (decide (0 < x15))) fun Xh=>
       some (.ok Xh)
      else
       if e1.name == ([62,61]:Str) then
        eO (nP x1 x6) (fun e13=>some (.bad e13)) fun x17=>
        au (fT (decide (0≤x17))) fun x18=>
        some (.ok x18)
       else
        if e1.name == ([43]:Str) then
         eO (FZ x1 x6) (fun e14=>some (.bad e14)) fun x19=>
         some (.ok x19)
        else
         eO (pJ e1.name x1 x6) (fun e15=>some (.bad e15)) fun x20=>
         some (.ok x20)

def lY (e1:aj) (x1:List ah):Nat→List av→Int→Option (fq aD ah)
 | 0,_,_=>none
 | bW + 1,gY,i1=>
  if decide (i1 < (x1.length:Int)) then
   au (idx x1 i1) fun e3=>
   au (idx e1.keys i1) fun e4=>
   au (app gY [(av.mk e4 e3)]) fun Da=>
   lY e1 x1 bW Da (bS (i1 + 1))
  else
   fG (CQ gY) fun x2 EN=>
   eO (eB (EN == 0) EN) (fun e5=>some (.bad e5)) fun _=>
   some (.ok x2)

def nk (bB:List av→aj→Option (fq aD ah)) (dx:List av→aj→Option (fq aD ah)) (dw:List av→List aj→Option (fq aD (List ah))) (bX:List av→aj→Option (fq aD ah)) (bR:List av→aj→Option (fq aD ah)) (s1:List av) (e1:aj):Option (fq aD ah):=
 eO (dw s1 e1.args) (fun e2=>some (.bad e2)) fun x1=>
 lY e1 x1 BIG [] 0

mutual
def dF :Nat→List av→aj→Option (fq aD ah)
 | 0,_,_=>none
 | k + 1,pE,fV=>tK (dF k) (fB k) (fK k) (d9 k) (dR k) pE fV
def fB :Nat→List av→aj→Option (fq aD ah)
 | 0,_,_=>none
 | k + 1,pE,fV=>qd (dF k) (fB k) (fK k) (d9 k) (dR k) pE fV
def fK :Nat→List av→List aj→Option (fq aD (List ah))
 | 0,_,_=>none
 | k + 1,pE,ul1=>Ag (dF k) (fB k) (fK k) (d9 k) (dR k) pE ul1
def d9 :Nat→List av→aj→Option (fq aD ah)
 | 0,_,_=>none
 | k + 1,pE,fV=>nS (dF k) (fB k) (fK k) (d9 k) (dR k) pE fV
def dR :Nat→List av→aj→Option (fq aD ah)
 | 0,_,_=>none
 | k + 1,pE,fV=>nk (dF k) (fB k) (fK k) (d9 k) (dR k) pE fV
end

def wX (pE:List av) (fV:aj):Option (fq aD ah):=dF BIG pE fV

def Pd (pE:List av) (fV:aj):Option (fq aD ah):=fB BIG pE fV

def Rl (pE:List av) (ul1:List aj):Option (fq aD (List ah)):=fK BIG pE ul1

def Mx (pE:List av) (fV:aj):Option (fq aD ah):=d9 BIG pE fV

def K9 (pE:List av) (fV:aj):Option (fq aD ah):=dR BIG pE fV

def oL (s1:List av) (e1:aj):Option (ah × Int):=
 eO (wX s1 e1) (fun f1=>some ((ah.mk 0 false 0 ([]:Str) [] []),f1.code)) fun v1=>
 some (v1,0)

def wL (lD:ah→Option ah) (v1:ah):Nat→Int→ah→Option ah
 | 0,_,_=>none
 | bW + 1,x1,aT=>
  if decide (x1 < (v1.aI.length:Int)) then
   au (idx v1.aI x1) fun e1=>
   au (lD e1) fun x2=>
   au (app aT.aI [x2]) fun x3=>
   wL lD v1 bW (bS (x1 + 1)) (ah.mk aT.kind aT.dh aT.bZ aT.bI x3 aT.keys)
  else
   au (app aT.keys v1.keys) fun x4=>
   some (ah.mk aT.kind aT.dh aT.bZ aT.bI aT.aI x4)

def Cx (lD:ah→Option ah) (v1:ah):Option ah:=
 wL lD v1 BIG 0 (ah.mk v1.kind v1.dh v1.bZ v1.bI [] [])

def mO :Nat→ah→Option ah
 | 0,_=>none
 | k + 1,rZ=>Cx (mO k) rZ

def rT (rZ:ah):Option ah:=mO BIG rZ

def nD (e1:aj) (bK:List av):Option (ah × Int):=
 fG (xQ e1 bK) fun s1 f1=>
 if f1 != 0 then
  some ((ah.mk 0 false 0 ([]:Str) [] []),f1)
 else
  fG (oL s1 e1) fun x1 f2=>
  au (rT x1) fun x2=>
  some (x2,f2)

def akf (aks:b_→b_→Option Bool) (a1:b_) (b1:b_):Option Bool:=
 if (a1.kind == 7) || (b1.kind == 0) then
  some true
 else
  if a1.kind != b1.kind then
   some false
  else
   au (sG a1.kind) fun x1=>
   if x1 then
    au (idx a1.elem 0) fun e1=>
    au (idx b1.elem 0) fun e2=>
    aks e1 e2
   else
    some true

def ahc :Nat→b_→b_→Option Bool
 | 0,_,_=>none
 | k + 1,wR,wQ=>akf (ahc k) wR wQ

def amC (wR:b_) (wQ:b_):Option Bool:=ahc BIG wR wQ

def amP (a1:b_) (b1:b_):Option Bool:=
 au (alB a1 b1) fun x1=>
 if x1 then
  amC a1 b1
 else
  some false

def al4 (v1:ah) (t1:b_):Option Bool:=
 au (kr v1) fun x1=>
 if x1 == 0 then
  au (al2 v1) fun x2=>
  amP x2 t1
 else
  some false

def alU (bK:List qE) (i1:Int) (am9:Int→Option Int):Nat→Int→Option Int
 | 0,_=>none
 | EB + 1,xO=>
  if decide (xO < i1) then
   au (idx bK xO) fun e4=>
   au (idx bK i1) fun e5=>
   if e4.name == e5.name then
    some 7
   else
    alU bK i1 am9 EB (bS (xO + 1))
  else
   am9 (bS (i1 + 1))

def alg (bK:List qE):Nat→Int→Option Int
 | 0,_=>none
 | bW + 1,i1=>
  if decide (i1 < (bK.length:Int)) then
   au (idx bK i1) fun e1=>
   au (xG e1.name) fun x1=>
   if !x1 then
    some 1
   else
    au (idx bK i1) fun e2=>
    au (Nf e2.LK) fun e3=>
    if e3 != 0 then
     some e3
    else
     alU bK i1 (alg bK bW) BIG 0
  else
   some 0

def anz (bK:List qE):Option Int:=
 if decide (1024 < (bK.length:Int)) then
  some 3
 else
  alg bK BIG 0

def FP (e1:aj):Option Bool:=
 if e1.kind == 1 then
  some ((e1.args.length:Int) == 0)
 else
  if e1.kind == 2 then
   some ((e1.args.length:Int) == 0)
  else
   if e1.kind == 3 then
    some ((e1.args.length:Int) == 1)
   else
    if e1.kind == 6 then
     some ((e1.args.length:Int) == 1)
    else
     if e1.kind == 4 then
      some ((e1.args.length:Int) == 2)
     else
      if e1.kind == 7 then
       some ((e1.args.length:Int) == 2)
      else
       if e1.kind == 8 then
        some ((e1.args.length:Int) == 3)
       else
        some (((e1.kind == 5) || (e1.kind == 9)) || (e1.kind == 10))

def yF (op1:Str):Option Int:=
 if op1 == ([124,124]:Str) then
  some 2
 else
  if op1 == ([38,38]:Str) then
   some 3
  else
   if op1 == ([61,61]:Str) then
    some 4
   else
    if op1 == ([33,61]:Str) then
     some 4
    else
     if op1 == ([60]:Str) then
      some 4
     else
      if op1 == ([60,61]:Str) then
       some 4
      else
       if op1 == ([62]:Str) then
        some 4
       else
        if op1 == ([62,61]:Str) then
         some 4
        else
         if op1 == ([43]:Str) then
          some 5
         else
          if op1 == ([45]:Str) then
           some 5
          else
           if op1 == ([42]:Str) then
            some 6
           else
            if op1 == ([47]:Str) then
             some 6
            else
             if op1 == ([37]:Str) then
              some 6
             else
              some 0

def FN (e1:aj):Option Bool:=
 if e1.kind == 2 then
  xG e1.name
 else
  if e1.kind == 3 then
   xG e1.name
  else
   if e1.kind == 5 then
    xG e1.name
   else
    if e1.kind == 6 then
     some ((e1.name == ([33]:Str)) || (e1.name == ([45]:Str)))
    else
     if e1.kind == 7 then
      au (yF e1.name) fun x4=>
      some (decide (0 < x4))
     else
      some (e1.name == ([]:Str))

def mY (ku:ah→ah→Option Bool) (a1:ah) (b1:ah):Nat→Int→Option Bool
 | 0,_=>none
 | EB + 1,i2=>
  if decide (i2 < (a1.aI.length:Int)) then
   au (idx a1.aI i2) fun e3=>
   au (idx b1.aI i2) fun e4=>
   au (ku e3 e4) fun x1=>
   if !x1 then
    some false
   else
    mY ku a1 b1 EB (bS (i2 + 1))
  else
   some true

def uE (ku:ah→ah→Option Bool) (a1:ah) (b1:ah):Nat→Int→Option Bool
 | 0,_=>none
 | bW + 1,i1=>
  if decide (i1 < (a1.keys.length:Int)) then
   au (idx a1.keys i1) fun e1=>
   au (idx b1.keys i1) fun e2=>
   if !(e1 == e2) then
    some false
   else
    uE ku a1 b1 bW (bS (i1 + 1))
  else
   mY ku a1 b1 BIG 0

def Dl (ku:ah→ah→Option Bool) (a1:ah) (b1:ah):Option Bool:=
 if (((((a1.kind != b1.kind) || (!(a1.dh == b1.dh))) || (a1.bZ != b1.bZ)) || (!(a1.bI == b1.bI))) || ((a1.aI.length:Int) != (b1.aI.length:Int))) || ((a1.keys.length:Int) != (b1.keys.length:Int)) then
  some false
 else
  uE ku a1 b1 BIG 0

def uD :Nat→ah→ah→Option Bool
 | 0,_,_=>none
 | k + 1,wR,wQ=>Dl (uD k) wR wQ

def r9 (wR:ah) (wQ:ah):Option Bool:=uD BIG wR wQ

def sH (e1:aj):Nat→Int→Option Bool
 | 0,_=>none
 | bW + 1,i1=>
  if decide (i1 < (e1.keys.length:Int)) then
   au (idx e1.keys i1) fun e2=>
   au (
     if decide ((e2.length:Int) < 1) then
      some true
     else
      au (idx e1.keys i1) fun e3=>
      some (decide (64 < (e3.length:Int)))) fun b4=>
   if b4 then
    some false
   else
    sH e1 bW (bS (i1 + 1))
  else
   some ((e1.keys.length:Int) == (e1.args.length:Int))

def Dk (e1:aj):Option Bool:=
 au (FP e1) fun x1=>
 au (
   if !x1 then
    some true
   else
    au (FN e1) fun x2=>
    some (!x2)) fun b1=>
 au (
   if b1 then
    some true
   else
    if e1.kind != 1 then
     au (r9 e1.value (ah.mk 0 false 0 ([]:Str) [] [])) fun x3=>
     some (!x3)
    else
     some false) fun b2=>
 if b2 then
  some false
 else
  if e1.kind != 10 then
   some ((e1.keys.length:Int) == 0)
  else
   sH e1 BIG 0

def vB (zD:List Str) (i1:Int) (Hw:Int→Option Bool):Nat→Int→Option Bool
 | 0,_=>none
 | EB + 1,xO=>
  if decide (xO < i1) then
   au (idx zD i1) fun e1=>
   au (idx zD xO) fun e2=>
   if e1 == e2 then
    some true
   else
    vB zD i1 Hw EB (bS (xO + 1))
  else
   Hw (bS (i1 + 1))

def pK (zD:List Str):Nat→Int→Option Bool
 | 0,_=>none
 | bW + 1,i1=>
  if decide (i1 < (zD.length:Int)) then
   vB zD i1 (pK zD bW) BIG 0
  else
   some false

def FM (zD:List Str):Option Bool:=
 pK zD BIG 0

def yE (mI:aj→Int→Option Int) (e1:aj) (bP:Int):Nat→Int→Option Int
 | 0,_=>none
 | bW + 1,i1=>
  if decide (i1 < (e1.args.length:Int)) then
   au (idx e1.args i1) fun e2=>
   au (mI e2 (bS (bP + 1))) fun f2=>
   if f2 != 0 then
    some f2
   else
    yE mI e1 bP bW (bS (i1 + 1))
  else
   some 0

def Eo (mI:aj→Int→Option Int) (e1:aj) (bP:Int):Option Int:=
 if decide (16 < bP) then
  some 13
 else
  au (Dk e1) fun x1=>
  if !x1 then
   some 1
  else
   au (xH e1.value) fun f1=>
   if (e1.kind == 1) && (f1 != 0) then
    some f1
   else
    if decide (1024 < (e1.args.length:Int)) then
     some 3
    else
     au (FM e1.keys) fun x2=>
     if x2 then
      some 7
     else
      yE mI e1 bP BIG 0

def pO :Nat→aj→Int→Option Int
 | 0,_,_=>none
 | k + 1,fV,gI=>Eo (pO k) fV gI

def Nc (fV:aj) (gI:Int):Option Int:=pO BIG fV gI

def xF (e1:aj):Option Int:=
 au (FQ e1) fun x1=>
 if decide (4096 < x1) then
  some 15
 else
  Nc e1 1

def alC (e1:aj) (bK:List qE):Nat→Int→Option (b_ × Int)
 | 0,_=>none
 | bW + 1,i1=>
  if decide (i1 < (bK.length:Int)) then
   au (idx bK i1) fun e2=>
   if e2.name == e1.name then
    au (idx bK i1) fun e3=>
    some (e3.LK,0)
   else
    alC e1 bK bW (bS (i1 + 1))
  else
   some ((b_.mk 0 []),10)

def alJ (e1:aj) (bK:List qE):Option (b_ × Int):=
 if e1.kind == 1 then
  au (anT e1.value) fun x1=>
  some (x1,0)
 else
  alC e1 bK BIG 0

def FL (name1:Str):Option Int:=
 if name1 == ([108,101,110]:Str) then
  some 1
 else
  if name1 == ([108,111,119,101,114]:Str) then
   some 1
  else
   if name1 == ([117,112,112,101,114]:Str) then
    some 1
   else
    if name1 == ([115,116,114,105,110,103]:Str) then
     some 1
    else
     if name1 == ([105,110,116]:Str) then
      some 1
     else
      if name1 == ([107,101,121,115]:Str) then
       some 1
      else
       if name1 == ([99,111,110,116,97,105,110,115]:Str) then
        some 2
       else
        if name1 == ([106,111,105,110]:Str) then
         some 2
        else
         if name1 == ([115,112,108,105,116]:Str) then
          some 2
         else
          if name1 == ([115,116,97,114,116,115,119,105,116,104]:Str) then
           some 2
          else
           if name1 == ([101,110,100,115,119,105,116,104]:Str) then
            some 2
           else
            if name1 == ([100,101,102,97,117,108,116]:Str) then
             some 2
            else
             some (-1)

def abJ (t1:b_):Option Bool:=
 some ((t1.kind == 0) || (t1.kind == 7))

def aaA (EC:Int):Option b_:=
 aij EC

def ai5 (ajW:b_→b_→Option Bool) (t1:b_) (u1:b_):Option Bool:=
 au (abJ t1) fun x1=>
 if x1 || (u1.kind == 0) then
  some true
 else
  if t1.kind != u1.kind then
   some false
  else
   if (t1.elem.length:Int) == 0 then
    some true
   else
    au (idx t1.elem 0) fun e1=>
    au (idx u1.elem 0) fun e2=>
    ajW e1 e2

def afb :Nat→b_→b_→Option Bool
 | 0,_,_=>none
 | k + 1,ut1,uu1=>ai5 (afb k) ut1 uu1

def CU (ut1:b_) (uu1:b_):Option Bool:=afb BIG ut1 uu1

def abH (t1:b_) (EC:Int):Option Bool:=
 au (aaA EC) fun x1=>
 CU t1 x1

def amF (a1:b_) (b1:b_):Option (b_ × Bool):=
 if a1.kind == 5 then
  au (idx a1.elem 0) fun e1=>
  au (abH b1 3) fun x1=>
  some (e1,x1)
 else
  if a1.kind == 6 then
   au (idx a1.elem 0) fun e2=>
   au (abH b1 4) fun x2=>
   some (e2,x2)
  else
   au (abJ a1) fun x3=>
   au (
     if x3 then
      au (abH b1 3) fun x4=>
      if x4 then
       some true
      else
       abH b1 4
     else
      some false) fun b2=>
   some (a1,b2)

def alT (EC:Int):Option b_:=
 au (aaA 0) fun x1=>
 af3 EC x1

def abb (name1:Str) (l1:List b_):Option (b_ × Bool):=
 au (aaA 4) fun x1=>
 if name1 == ([108,101,110]:Str) then
  au (aaA 3) fun x2=>
  au (idx l1 0) fun e1=>
  au (abH e1 4) fun x3=>
  au (
    if x3 then
     some true
    else
     au (idx l1 0) fun e2=>
     au (alT 5) fun x4=>
     CU e2 x4) fun b1=>
  au (
    if b1 then
     some true
    else
     au (idx l1 0) fun e3=>
     au (alT 6) fun x6=>
     CU e3 x6) fun b2=>
  some (x2,b2)
 else
  if name1 == ([99,111,110,116,97,105,110,115]:Str) then
   au (aaA 2) fun x8=>
   au (idx l1 0) fun e4=>
   au (alT 5) fun x9=>
   au (CU e4 x9) fun CO=>
   au (
     if CO then
      some true
     else
      au (idx l1 1) fun e5=>
      au (abH e5 4) fun KP=>
      if KP then
       au (idx l1 0) fun e6=>
       au (abH e6 4) fun TU=>
       if TU then
        some true
       else
        au (idx l1 0) fun e7=>
        au (alT 6) fun Sv=>
        CU e7 Sv
      else
       some false) fun b3=>
   some (x8,b3)
  else
   if name1 == ([106,111,105,110]:Str) then
    au (idx l1 0) fun e8=>
    au (af3 5 x1) fun x15=>
    au (CU e8 x15) fun Xh=>
    au (
      if Xh then
       au (idx l1 1) fun e9=>
       abH e9 4
      else
       some false) fun b6=>
    some (x1,b6)
   else
    if name1 == ([115,112,108,105,116]:Str) then
     au (af3 5 x1) fun x18=>
     au (idx l1 0) fun e10=>
     au (abH e10 4) fun x19=>
     au (
       if x19 then
        au (idx l1 1) fun e11=>
        abH e11 4
       else
        some false) fun b7=>
     some (x18,b7)
    else
     if name1 == ([108,111,119,101,114]:Str) then
      au (idx l1 0) fun e12=>
      au (abH e12 4) fun x21=>
      some (x1,x21)
     else
      if name1 == ([117,112,112,101,114]:Str) then
       au (idx l1 0) fun e13=>
       au (abH e13 4) fun x22=>
       some (x1,x22)
      else
       if name1 == ([115,116,97,114,116,115,119,105,116,104]:Str) then
        au (aaA 2) fun x23=>
        au (idx l1 0) fun e14=>
        au (abH e14 4) fun x24=>
        au (
          if x24 then
           au (idx l1 1) fun e15=>
           abH e15 4
          else
           some false) fun b8=>
        some (x23,b8)
       else
        if name1 == ([101,110,100,115,119,105,116,104]:Str) then
         au (aaA 2) fun x26=>
         au (idx l1 0) fun e16=>
         au (abH e16 4) fun x27=>
         au (
           if x27 then
            au (idx l1 1) fun e17=>
            abH e17 4
           else
            some false) fun b9=>
         some (x26,b9)
        else
         if name1 == ([115,116,114,105,110,103]:Str) then
          au (idx l1 0) fun e18=>
          au (
            if e18.kind != 5 then
             au (idx l1 0) fun e19=>
             some (e19.kind != 6)
            else
             some false) fun b10=>
          some (x1,b10)
         else
          if name1 == ([105,110,116]:Str) then
           au (aaA 3) fun x29=>
           au (idx l1 0) fun e20=>
           au (abH e20 4) fun x30=>
           some (x29,x30)
          else
           if name1 == ([107,101,121,115]:Str) then
            au (af3 5 x1) fun x31=>
            au (idx l1 0) fun e21=>
            au (alT 6) fun x32=>
            au (CU e21 x32) fun x33=>
            some (x31,x33)
           else
            au (idx l1 0) fun e22=>
            if e22.kind == 1 then
             au (idx l1 1) fun e23=>
             some (e23,true)
            else
             au (idx l1 0) fun e24=>
             some (e24,true)

def aku (a1:b_) (b1:b_):Option Int:=
 au (abJ a1) fun x1=>
 if x1 then
  some b1.kind
 else
  au (abJ b1) fun x2=>
  if x2 || (a1.kind == b1.kind) then
   some a1.kind
  else
   some (-1)

def alD (t1:b_):Option b_:=
 au (abJ t1) fun x1=>
 if x1 then
  some t1
 else
  idx t1.elem 0

def amy (a1:b_) (b1:b_):Option (b_ × Bool):=
 au (abJ a1) fun x1=>
 au (
   if x1 then
    abJ b1
   else
    some false) fun b2=>
 if b2 then
  if a1.kind == 0 then
   some (a1,true)
  else
   some (b1,true)
 else
  au (aku a1 b1) fun xO=>
  if xO == 5 then
   au (alD a1) fun x3=>
   au (alD b1) fun x4=>
   au (alo x3 x4) fun x5=>
   au (af3 xO x5) fun x6=>
   some (x6,true)
  else
   au (aaA xO) fun x7=>
   some (x7,((xO == 3) || (xO == 4)))

def aiV (op1:Str) (a1:b_) (b1:b_):Option (b_ × Bool):=
 if op1 == ([38,38]:Str) then
  au (aaA 2) fun x1=>
  au (abH a1 2) fun x2=>
  au (
    if x2 then
     abH b1 2
    else
     some false) fun b2=>
  some (x1,b2)
 else
  if op1 == ([124,124]:Str) then
   au (aaA 2) fun x4=>
   au (abH a1 2) fun x5=>
   au (
     if x5 then
      abH b1 2
     else
      some false) fun b3=>
   some (x4,b3)
  else
   if op1 == ([61,61]:Str) then
    au (aaA 2) fun x7=>
    some (x7,true)
   else
    if op1 == ([33,61]:Str) then
     au (aaA 2) fun x8=>
     some (x8,true)
    else
     if op1 == ([60]:Str) then
      au (aku a1 b1) fun xO=>
      au (aaA 2) fun x9=>
      au (abJ a1) fun CO=>
      au (
        if CO then
         abJ b1
        else
         some false) fun b4=>
      some (x9,((b4 || (xO == 3)) || (xO == 4)))
     else
      if op1 == ([60,61]:Str) then
       au (aku a1 b1) fun kx2=>
       au (aaA 2) fun TU=>
       au (abJ a1) fun Sv=>
       au (
         if Sv then
          abJ b1
         else
          some false) fun b5=>
       some (TU,((b5 || (kx2 == 3)) || (kx2 == 4)))
      else
       if op1 == ([62]:Str) then
        au (aku a1 b1) fun kx3=>
        au (aaA 2) fun x15=>
        au (abJ a1) fun Xh=>
        au (
          if Xh then
           abJ b1
          else
           some false) fun b6=>
        some (x15,((b6 || (kx3 == 3)) || (kx3 == 4)))
       else
        if op1 == ([62,61]:Str) then
         au (aku a1 b1) fun kx4=>
         au (aaA 2) fun x18=>
         au (abJ a1) fun x19=>
         au (
           if x19 then
            abJ b1
           else
            some false) fun b7=>
         some (x18,((b7 || (kx4 == 3)) || (kx4 == 4)))
        else
         if op1 == ([43]:Str) then
          amy a1 b1
         else
          au (aaA 3) fun x23=>
          au (abH a1 3) fun x24=>
          au (
            if x24 then
             abH b1 3
            else
             some false) fun b8=>
          some (x23,b8)

def al8 (e1:aj) (l1:List b_):Nat→Int→b_→Option (b_ × Bool)
 | 0,_,_=>none
 | bW + 1,i1,t1=>
  if decide (i1 < (l1.length:Int)) then
   au (idx l1 i1) fun e16=>
   au (alo t1 e16) fun x15=>
   al8 e1 l1 bW (bS (i1 + 1)) x15
  else
   if e1.kind == 10 then
    au (af3 6 t1) fun Xh=>
    some (Xh,true)
   else
    au (af3 5 t1) fun x17=>
    some (x17,true)

def aaG (e1:aj) (l1:List b_):Option (b_ × Bool):=
 if e1.kind == 3 then
  au (idx l1 0) fun e2=>
  if e2.kind == 6 then
   au (idx l1 0) fun e3=>
   au (idx e3.elem 0) fun e4=>
   some (e4,true)
  else
   au (idx l1 0) fun e5=>
   au (idx l1 0) fun e6=>
   au (abJ e6) fun x1=>
   some (e5,x1)
 else
  if e1.kind == 4 then
   au (idx l1 0) fun e7=>
   au (idx l1 1) fun e8=>
   amF e7 e8
  else
   if e1.kind == 5 then
    abb e1.name l1
   else
    if e1.kind == 6 then
     if e1.name == ([33]:Str) then
      au (aaA 2) fun x6=>
      au (idx l1 0) fun e9=>
      au (abH e9 2) fun x7=>
      some (x6,x7)
     else
      au (aaA 3) fun x8=>
      au (idx l1 0) fun e10=>
      au (abH e10 3) fun x9=>
      some (x8,x9)
    else
     if e1.kind == 7 then
      au (idx l1 0) fun e11=>
      au (idx l1 1) fun e12=>
      aiV e1.name e11 e12
     else
      if e1.kind == 8 then
       au (idx l1 1) fun e13=>
       au (idx l1 2) fun e14=>
       au (alo e13 e14) fun TU=>
       au (idx l1 0) fun e15=>
       au (abH e15 2) fun Sv=>
       some (TU,Sv)
      else
       au (aaA 7) fun Vo=>
       al8 e1 l1 BIG 0 Vo

def akw (ako:aj→List qE→Option (b_ × Int)) (e1:aj) (bK:List qE):Nat→List b_→Int→Option (b_ × Int)
 | 0,_,_=>none
 | bW + 1,l1,i1=>
  if decide (i1 < (e1.args.length:Int)) then
   au (idx e1.args i1) fun e2=>
   fG (ako e2 bK) fun x5 f1=>
   if f1 != 0 then
    some ((b_.mk 0 []),f1)
   else
    au (app l1 [x5]) fun l2=>
    akw ako e1 bK bW l2 (bS (i1 + 1))
  else
   fG (aaG e1 l1) fun x6 ok1=>
   if !ok1 then
    some ((b_.mk 0 []),9)
   else
    au (Nf x6) fun x7=>
    if x7 != 0 then
     some ((b_.mk 0 []),13)
    else
     some (x6,0)

def alv (ako:aj→List qE→Option (b_ × Int)) (e1:aj) (bK:List qE):Option (b_ × Int):=
 if (e1.kind == 1) || (e1.kind == 2) then
  alJ e1 bK
 else
  au (
    if e1.kind == 5 then
     au (FL e1.name) fun x3=>
     some (decide (x3 < 0))
    else
     some false) fun b1=>
  if b1 then
   some ((b_.mk 0 []),10)
  else
   au (
     if e1.kind == 5 then
      au (FL e1.name) fun x4=>
      some (x4 != (e1.args.length:Int))
     else
      some false) fun b2=>
   if b2 then
    some ((b_.mk 0 []),1)
   else
    akw ako e1 bK BIG [] 0

def adX :Nat→aj→List qE→Option (b_ × Int)
 | 0,_,_=>none
 | k + 1,fV,jv=>alv (adX k) fV jv

def ajd (fV:aj) (jv:List qE):Option (b_ × Int):=adX BIG fV jv

def amq (e1:aj) (bK:List qE):Option (b_ × Int):=
 au (anz bK) fun f1=>
 if f1 != 0 then
  some ((b_.mk 0 []),f1)
 else
  au (xF e1) fun f2=>
  if f2 != 0 then
   some ((b_.mk 0 []),f2)
  else
   ajd e1 bK

def amn (alF:b_→Option Bool) (t1:b_):Option Bool:=
 if t1.kind != 0 then
  if (t1.elem.length:Int) == 0 then
   some true
  else
   au (idx t1.elem 0) fun e1=>
   alF e1
 else
  some false

def alf :Nat→b_→Option Bool
 | 0,_=>none
 | k + 1,ut1=>amn (alf k) ut1

def anx (ut1:b_):Option Bool:=alf BIG ut1

def alm (aiU:aj→List qE→Option Bool) (e1:aj) (bK:List qE):Nat→Int→Option Bool
 | 0,_=>none
 | bW + 1,i1=>
  if decide (i1 < (e1.args.length:Int)) then
   au (idx e1.args i1) fun e2=>
   au (aiU e2 bK) fun x3=>
   if !x3 then
    some false
   else
    alm aiU e1 bK bW (bS (i1 + 1))
  else
   some true

def amh (aiU:aj→List qE→Option Bool) (e1:aj) (bK:List qE):Option Bool:=
 fG (ajd e1 bK) fun x1 f1=>
 au (
   if f1 != 0 then
    some true
   else
    au (anx x1) fun x2=>
    some (!x2)) fun b1=>
 if b1 then
  some false
 else
  alm aiU e1 bK BIG 0

def akj :Nat→aj→List qE→Option Bool
 | 0,_,_=>none
 | k + 1,fV,jv=>amh (akj k) fV jv

def anh (fV:aj) (jv:List qE):Option Bool:=akj BIG fV jv

def amo (e1:aj) (bK:List qE):Option Bool:=
 fG (amq e1 bK) fun x1 f1=>
 if f1 == 0 then
  anh e1 bK
 else
  some false

def alN (e1:aj) (gY:List av) (ajY:List b_):Option Bool:=
 au (amH e1 (gY.length:Int)) fun x1=>
 au (
   if !x1 then
    some true
   else
    au (Gq gY) fun x2=>
    some (x2 != 0)) fun b1=>
 if b1 then
  akr
 else
  au (alL gY ajY) fun bK=>
  fG (alA e1 bK) fun x4 f1=>
  if f1 != 0 then
   if (x4.kind == 0) && ((x4.elem.length:Int) == 0) then
    akr
   else
    some false
  else
   fG (nD e1 gY) fun x6 g1=>
   if g1 == 0 then
    au (al4 x6 x4) fun x7=>
    if x7 then
     akr
    else
     some false
   else
    if g1 == 8 then
     akr
    else
     if g1 == 11 then
      akr
     else
      if g1 == 12 then
       akr
      else
       if g1 == 1 then
        akr
       else
        if g1 == 3 then
         akr
        else
         if g1 == 13 then
          akr
         else
          au (
            if g1 == 9 then
             au (amo e1 bK) fun x15=>
             some (!x15)
            else
             some false) fun b4=>
          if b4 then
           akr
          else
           some false

def nU (s1:Str):Option ah:=
 some (ah.mk 3 false 0 s1 [] [])

def zX (v1:ah) (key1:Str):Nat→Int→Option (ah × Bool)
 | 0,_=>none
 | bW + 1,i1=>
 if decide (i1 < (v1.keys.length:Int)) then
  au (idx v1.keys i1) fun e1=>
  if e1 == key1 then
  if decide ((v1.aI.length:Int)≤i1) then
   some ((ah.mk 0 false 0 ([]:Str) [] []),false)
  else
   au (idx v1.aI i1) fun e2=>
   some (e2,true)
  else
  zX v1 key1 bW (bS (i1 + 1))
 else
  some ((ah.mk 0 false 0 ([]:Str) [] []),false)

def Gt (v1:ah) (key1:Str):Option (ah × Bool):=
 if v1.kind != 5 then
 some ((ah.mk 0 false 0 ([]:Str) [] []),false)
 else
 zX v1 key1 BIG 0

def sK (oK:Int→Option Str) (n1:Int):Option Str:=
 if decide (n1 < 0) then
 if decide ((-10) < n1) then
  app ([45]:Str) ([(Ft.byteOf (bS (48 - n1)))]:List UInt8)
 else
  au (oK (bS ((n1:Int).tdiv 10))) fun x2=>
  app x2 ([(Ft.byteOf (bS (48 - ((n1:Int).tmod 10))))]:List UInt8)
 else
 if decide (n1 < 10) then
  some ([(Ft.byteOf (bS (48 + n1)))]:List UInt8)
 else
  au (oK (bS ((n1:Int).tdiv 10))) fun x4=>
  app x4 ([(Ft.byteOf (bS (48 + ((n1:Int).tmod 10))))]:List UInt8)

def jR :Nat→Int→Option Str
 | 0,_=>none
 | k + 1,OY=>sK (jR k) OY

def Eu (OY:Int):Option Str:=jR BIG OY

def E8 (c1:UInt8):Option Str:=
 if (c1.toNat:Int) == 34 then
 some ([92,34]:List UInt8)
 else
 if (c1.toNat:Int) == 92 then
  some ([92,92]:List UInt8)
 else
  if (c1.toNat:Int) == 10 then
  some ([92,110]:List UInt8)
  else
  if (c1.toNat:Int) == 9 then
   some ([92,116]:List UInt8)
  else
   if (decide (32≤(c1.toNat:Int))) && (decide ((c1.toNat:Int)≤126)) then
   some ([c1]:List UInt8)
   else
   au (idx ([48,49,50,51,52,53,54,55,56,57,97,98,99,100,101,102]:Str) ((c1 / 16).toNat:Int)) fun x1=>
   au (idx ([48,49,50,51,52,53,54,55,56,57,97,98,99,100,101,102]:Str) ((c1 % 16).toNat:Int)) fun x2=>
   some ([92,120,x1,x2]:List UInt8)

def Ck (s1:Str):Nat→Str→Int→Option Str
 | 0,_,_=>none
 | bW + 1,aT,i1=>
 if decide (i1 < (s1.length:Int)) then
  au (idx s1 i1) fun x1=>
  au (E8 x1) fun x2=>
  au (app aT x2) fun Cq=>
  Ck s1 bW Cq (bS (i1 + 1))
 else
  app aT ([34]:List UInt8)

def FU (s1:Str):Option Str:=
 Ck s1 BIG ([34]:List UInt8) 0

def oH (gT:ah→Option Str) (v1:ah):Nat→Str→Int→Option Str
 | 0,_,_=>none
 | bW + 1,s1,i1=>
 if decide (i1 < (v1.aI.length:Int)) then
  if decide (0 < i1) then
  au (app s1 ([44,32]:Str)) fun s2=>
  if v1.kind == 5 then
   au (idx v1.keys i1) fun e1=>
   au (FU e1) fun x3=>
   au (app s2 x3) fun x4=>
   au (app x4 ([58,32]:Str)) fun s3=>
   au (idx v1.aI i1) fun e2=>
   au (gT e2) fun x5=>
   au (app s3 x5) fun s4=>
   oH gT v1 bW s4 (bS (i1 + 1))
  else
   au (idx v1.aI i1) fun e3=>
   au (gT e3) fun x6=>
   au (app s2 x6) fun s5=>
   oH gT v1 bW s5 (bS (i1 + 1))
  else
  if v1.kind == 5 then
   au (idx v1.keys i1) fun e4=>
   au (FU e4) fun x7=>
   au (app s1 x7) fun x8=>
   au (app x8 ([58,32]:Str)) fun s6=>
   au (idx v1.aI i1) fun e5=>
   au (gT e5) fun x9=>
   au (app s6 x9) fun s7=>
   oH gT v1 bW s7 (bS (i1 + 1))
  else
   au (idx v1.aI i1) fun e6=>
   au (gT e6) fun CO=>
   au (app s1 CO) fun s8=>
   oH gT v1 bW s8 (bS (i1 + 1))
 else
  if v1.kind == 5 then
  au (app ([123]:Str) s1) fun KP=>
  app KP ([125]:Str)
  else
  au (app ([91]:Str) s1) fun Sv=>
  app Sv ([93]:Str)

def AL (gT:ah→Option Str) (v1:ah):Option Str:=
 if v1.kind == 0 then
 some ([110,117,108,108]:Str)
 else
 if v1.kind == 1 then
  if v1.dh then
  some ([116,114,117,101]:Str)
  else
  some ([102,97,108,115,101]:Str)
 else
  if v1.kind == 2 then
  Eu v1.bZ
  else
  if v1.kind == 3 then
   FU v1.bI
  else
   oH gT v1 BIG ([]:Str) 0

def sI :Nat→ah→Option Str
 | 0,_=>none
 | k + 1,rZ=>AL (sI k) rZ

def IW (rZ:ah):Option Str:=sI BIG rZ

def IX (v1:ah):Option (Str × Int):=
 if (v1.kind == 4) || (v1.kind == 5) then
 some (([]:Str),9)
 else
 au (xH v1) fun e1=>
 if e1 != 0 then
  some (([]:Str),e1)
 else
  if v1.kind == 0 then
  some (([]:Str),0)
  else
  if v1.kind == 3 then
   some (v1.bI,0)
  else
   au (IW v1) fun x1=>
   some (x1,0)

def vv (s1:Str) (Fh:UInt8) (Jf:UInt8) (pq:Int):Nat→List UInt8→Int→Option Str
 | 0,_,_=>none
 | bW + 1,b1,i1=>
 if decide (i1 < (s1.length:Int)) then
  au (idx s1 i1) fun c1=>
  if (decide ((Fh.toNat:Int)≤(c1.toNat:Int))) && (decide ((c1.toNat:Int)≤(Jf.toNat:Int))) then
  au (app b1 ([(Ft.byteOf (bS ((c1.toNat:Int) + pq)))]:List UInt8)) fun b2=>
  vv s1 Fh Jf pq bW b2 (bS (i1 + 1))
  else
  au (app b1 ([c1]:List UInt8)) fun b3=>
  vv s1 Fh Jf pq bW b3 (bS (i1 + 1))
 else
  some b1

def CV (s1:Str) (Fh:UInt8) (Jf:UInt8) (pq:Int):Option Str:=
 vv s1 Fh Jf pq BIG [] 0

def zV (s1:Str):Nat→Int→Int→Option (Int × Bool)
 | 0,_,_=>none
 | bW + 1,n1,i1=>
 if decide (i1 < (s1.length:Int)) then
  au (idx s1 i1) fun x2=>
  au (zU x2) fun x3=>
  if !x3 then
  some (0,false)
  else
  au (idx s1 i1) fun x4=>
  zV s1 bW (bS ((bS ((bS (10 * n1)) + (x4.toNat:Int))) - 48)) (bS (i1 + 1))
 else
  some (n1,(decide (n1≤9007199254740992)))

def J2 (s1:Str):Option (Int × Bool):=
 au (
  if (s1 == ([]:Str)) || (decide (16 < (s1.length:Int))) then
  some true
  else
  if decide (1 < (s1.length:Int)) then
   au (idx s1 0) fun x1=>
   some ((x1.toNat:Int) == 48)
  else
   some false) fun b1=>
 if b1 then
 some (0,false)
 else
 zV s1 BIG 0 0

def xg (s1:Str):Option (Int × Bool):=
 au (
  if !(s1 == ([]:Str)) then
  au (idx s1 0) fun x1=>
  some ((x1.toNat:Int) == 45)
  else
  some false) fun b1=>
 if b1 then
 au (sl s1 1 (s1.length:Int)) fun x2=>
 fG (J2 x2) fun n1 ok1=>
 some ((bS (0 - n1)),(ok1 && (n1 != 0)))
 else
 J2 s1

def mW (PN:Bool):Option Int:=
 if PN then
 some (-1)
 else
 some 1

def vC (a1:List Str) (b1:List Str):Nat→Int→Option Int
 | 0,_=>none
 | bW + 1,i1=>
 if (decide (i1 < (a1.length:Int))) && (decide (i1 < (b1.length:Int))) then
  au (idx a1 i1) fun e1=>
  au (idx b1 i1) fun e2=>
  au (m_ e1 e2) fun c1=>
  if c1 != 0 then
  mW (decide (c1 < 0))
  else
  vC a1 b1 bW (bS (i1 + 1))
 else
  if (a1.length:Int) == (b1.length:Int) then
  some 0
  else
  mW (decide ((a1.length:Int) < (b1.length:Int)))

def FT (a1:List Str) (b1:List Str):Option Int:=
 vC a1 b1 BIG 0

def AP (iL:ah→ah→Option Int) (lM:List ah→List ah→Option Int) (a1:ah) (b1:ah):Option Int:=
 if a1.kind != b1.kind then
 mW (decide (a1.kind < b1.kind))
 else
 if a1.kind == 1 then
  if !(a1.dh == b1.dh) then
  mW b1.dh
  else
  some 0
 else
  if a1.kind == 2 then
  if a1.bZ != b1.bZ then
   mW (decide (a1.bZ < b1.bZ))
  else
   some 0
  else
  if a1.kind == 3 then
   if !(a1.bI == b1.bI) then
   mW (Go.Op.bytesLess a1.bI b1.bI)
   else
   some 0
  else
   if a1.kind == 4 then
   lM a1.aI b1.aI
   else
   if a1.kind == 5 then
    au (FT a1.keys b1.keys) fun c1=>
    if c1 != 0 then
    some c1
    else
    lM a1.aI b1.aI
   else
    some 0

def vD (iL:ah→ah→Option Int) (a1:List ah) (b1:List ah):Nat→Int→Option Int
 | 0,_=>none
 | bW + 1,i1=>
 if (decide (i1 < (a1.length:Int))) && (decide (i1 < (b1.length:Int))) then
  au (idx a1 i1) fun e1=>
  au (idx b1 i1) fun e2=>
  au (iL e1 e2) fun c1=>
  if c1 != 0 then
  some c1
  else
  vD iL a1 b1 bW (bS (i1 + 1))
 else
  if (a1.length:Int) == (b1.length:Int) then
  some 0
  else
  mW (decide ((a1.length:Int) < (b1.length:Int)))

def Es (iL:ah→ah→Option Int) (lM:List ah→List ah→Option Int) (a1:List ah) (b1:List ah):Option Int:=
 vD iL a1 b1 BIG 0

mutual
def jS :Nat→ah→ah→Option Int
 | 0,_,_=>none
 | k + 1,wR,wQ=>AP (jS k) (rE k) wR wQ
def rE :Nat→List ah→List ah→Option Int
 | 0,_,_=>none
 | k + 1,wR,wQ=>Es (jS k) (rE k) wR wQ
end

def Ew (wR:ah) (wQ:ah):Option Int:=jS BIG wR wQ

def sJ (a1:ah) (b1:ah):Option Bool:=
 au (Ew a1 b1) fun x1=>
 some (x1 == 0)

def jA (b1:Bool):Option ah:=
 some (ah.mk 1 b1 0 ([]:Str) [] [])

def xD (s1:Str) (t1:Str):Nat→Int→Option Int
 | 0,_=>none
 | bW + 1,i1=>
 if decide ((bS (i1 + (t1.length:Int)))≤(s1.length:Int)) then
  au (sl s1 i1 (bS (i1 + (t1.length:Int)))) fun x1=>
  if x1 == t1 then
  some i1
  else
  xD s1 t1 bW (bS (i1 + 1))
 else
  some (-1)

def Dj (s1:Str) (t1:Str) (EI:Int):Option Int:=
 xD s1 t1 BIG EI

def pF (a1:ah) (b1:ah):Nat→Int→Option (ah × Int)
 | 0,_=>none
 | bW + 1,i1=>
 if decide (i1 < (a1.aI.length:Int)) then
  au (idx a1.aI i1) fun e1=>
  au (sJ e1 b1) fun x1=>
  if x1 then
  au (jA true) fun x2=>
  some (x2,0)
  else
  pF a1 b1 bW (bS (i1 + 1))
 else
  au (jA false) fun x3=>
  some (x3,0)

def yB (a1:ah) (b1:ah):Option (ah × Int):=
 if a1.kind == 4 then
 pF a1 b1 BIG 0
 else
 if (b1.kind != 3) || ((a1.kind != 3) && (a1.kind != 5)) then
  some ((ah.mk 0 false 0 ([]:Str) [] []),9)
 else
  if a1.kind == 5 then
  fG (Gt a1 b1.bI) fun x4 ok1=>
  au (jA ok1) fun x5=>
  some (x5,0)
  else
  au (Dj a1.bI b1.bI 0) fun x6=>
  au (jA (decide (0≤x6))) fun x7=>
  some (x7,0)

def wC (lC:ah→Option Int) (v1:ah):Nat→Int→Int→Option Int
 | 0,_,_=>none
 | bW + 1,n1,i1=>
 if decide (i1 < (v1.aI.length:Int)) then
  au (idx v1.aI i1) fun e1=>
  au (lC e1) fun x1=>
  wC lC v1 bW (if n1 < (bS (1 + x1)) then (bS (1 + x1)) else n1) (bS (i1 + 1))
 else
  some n1

def Cm (lC:ah→Option Int) (v1:ah):Option Int:=
 if (v1.kind != 4) && (v1.kind != 5) then
 some 1
 else
 wC lC v1 BIG 2 0

def nV :Nat→ah→Option Int
 | 0,_=>none
 | k + 1,rZ=>Cm (nV k) rZ

def Dm (rZ:ah):Option Int:=nV BIG rZ

def jN (v1:ah):Option (ah × Int):=
 if (decide (v1.bZ < (-9007199254740992))) || (decide (9007199254740992 < v1.bZ)) then
 some ((ah.mk 0 false 0 ([]:Str) [] []),11)
 else
 if (decide (4096 < (v1.bI.length:Int))) || (decide (1024 < (v1.aI.length:Int))) then
  some ((ah.mk 0 false 0 ([]:Str) [] []),3)
 else
  au (Dm v1) fun x1=>
  if decide (16 < x1) then
  some ((ah.mk 0 false 0 ([]:Str) [] []),13)
  else
  some (v1,0)

def rD (a1:ah) (b1:ah):Nat→Str→Int→Option (ah × Int)
 | 0,_,_=>none
 | bW + 1,s1,i1=>
 if decide (i1 < (a1.aI.length:Int)) then
  au (idx a1.aI i1) fun e1=>
  if e1.kind != 3 then
  some ((ah.mk 0 false 0 ([]:Str) [] []),9)
  else
  if decide (0 < i1) then
   au (app s1 b1.bI) fun s2=>
   au (idx a1.aI i1) fun e2=>
   au (app s2 e2.bI) fun s3=>
   rD a1 b1 bW s3 (bS (i1 + 1))
  else
   au (idx a1.aI i1) fun e3=>
   au (app s1 e3.bI) fun s4=>
   rD a1 b1 bW s4 (bS (i1 + 1))
 else
  au (nU s1) fun x1=>
  jN x1

def IJ (a1:ah) (b1:ah):Option (ah × Int):=
 if (a1.kind != 4) || (b1.kind != 3) then
 some ((ah.mk 0 false 0 ([]:Str) [] []),9)
 else
 rD a1 b1 BIG ([]:Str) 0

def vo (s1:Str) (pq:Str):Nat→List ah→Int→Int→Option (ah × Int)
 | 0,_,_,_=>none
 | bW + 1,l1,EI,at2=>
 if decide (0≤at2) then
  au (sl s1 EI at2) fun x1=>
  au (nU x1) fun x2=>
  au (app l1 [x2]) fun l2=>
  au (Dj s1 pq (bS (at2 + (pq.length:Int)))) fun at3=>
  vo s1 pq bW l2 (bS (at2 + (pq.length:Int))) at3
 else
  au (sl s1 EI (s1.length:Int)) fun x3=>
  au (nU x3) fun x4=>
  au (app l1 [x4]) fun x5=>
  jN (ah.mk 4 false 0 ([]:Str) x5 [])

def zR (s1:Str) (pq:Str):Option (ah × Int):=
 if pq == ([]:Str) then
 some ((ah.mk 0 false 0 ([]:Str) [] []),1)
 else
 au (Dj s1 pq 0) fun jI=>
 vo s1 pq BIG [] 0 jI
end Go.Ft
