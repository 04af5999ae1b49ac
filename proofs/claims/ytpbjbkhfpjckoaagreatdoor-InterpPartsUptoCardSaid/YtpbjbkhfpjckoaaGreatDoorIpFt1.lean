/- Proved here: nothing: the functional texts of the functions that the statements reach, as our program wrote them. -/
import Derived.Test.YtpbjbkhfpjckoaaGreatDoorIpWords
set_option linter.unusedVariables false
set_option linter.unusedSimpArgs false
set_option linter.unusedSectionVars false
namespace Go.Ft
open Go
structure av where
 kind:Int
 text:Str
 at_:Int
 deriving DecidableEq
structure aj where
 ts:List av
 at_:Int
 deriving DecidableEq
structure aA where
 at_:Int
 code:Int
 deriving DecidableEq
structure ak where
 kind:Int
 fU:Bool
 kF:Int
 kC:Str
 bT:List ak
 keys:List Str
structure ah where
 kind:Int
 name:Str
 value:ak
 args:List ah
 keys:List Str
structure aM where
 text:Str
 Oh:Bool
 expr:ah
structure dV where
 name:Str
 value:ak
structure bY where
 code:Int
 deriving DecidableEq
structure aG where
 kind:Int
 elem:List aG
structure dM where
 name:Str
 D_:aG
structure ZF where
 x:Int
 y:Int
 signed:Bool
 code:UInt8
 deriving DecidableEq
structure Aa where
 x:Int
 y:Int
 signed:Bool
 code:UInt8
 deriving DecidableEq
structure ZE where
 msg:Str
 addr:BitVec 64
 deriving DecidableEq
structure tN where
 msg:Str
 addr:BitVec 64
 deriving DecidableEq
structure ZB where
 kind:Int
 fU:Bool
 kF:Int
 kC:Str
 bT:List ak
 keys:List Str
structure ZA where
 kind:Int
 name:Str
 value:ak
 args:List ah
 keys:List Str
structure Zz where
 text:Str
 Oh:Bool
 expr:ah
structure Zy where
 name:Str
 value:ak
structure Zx where
 kind:Int
 elem:List aG
structure Zw where
 name:Str
 D_:aG
structure Zv where
 kind:Int
 text:Str
 at_:Int
 deriving DecidableEq
structure Zu where
 ts:List av
 at_:Int
 deriving DecidableEq
structure Zt where
 at_:Int
 code:Int
 deriving DecidableEq
structure Zr where
 code:Int
 deriving DecidableEq
structure Zq where
 lo:UInt8
 hi:UInt8
 deriving DecidableEq
structure DK where
 lo:UInt8
 hi:UInt8
 deriving DecidableEq
structure Zp where
 neg:Bool
 hi:BitVec 64
 lo:BitVec 64
 deriving DecidableEq
structure A9 where
 neg:Bool
 hi:BitVec 64
 lo:BitVec 64
 deriving DecidableEq
structure afE where
 half:List (BitVec 64)
 neg:Bool
 deriving DecidableEq
structure ac3 where
 half:List (BitVec 64)
 neg:Bool
 deriving DecidableEq
structure afD where
 func:Str
 num:Str
 err:Option Nat
structure XH where
 func:Str
 num:Str
 err:Option Nat
structure Zo where
 s:Str
 deriving DecidableEq
structure A_ where
 s:Str
 deriving DecidableEq
def av.bulk (x:av):Nat:=1 + (x.text.length + 1) + 1 + 1
def aj.bulk (x:aj):Nat:=((List.map (fun z:av=>(av.bulk z)) x.ts).sum + 1) + 1 + 1
def aA.bulk (x:aA):Nat:=1 + 1 + 1
mutual
def ak.bulk :ak→Nat
 | ⟨a0,a1,a2,a3,a4,a5⟩=>1 + 1 + 1 + (a3.length + 1) + (ak.mK a4 + 1) + ((List.map (fun z:Str=>(z.length + 1)) a5).sum + 1) + 1
def ak.mK :List ak→Nat
 | []=>0
 | x :: xs=>ak.bulk x + ak.mK xs
end
theorem ak.sH :∀ l:List ak,ak.mK l=(l.map ak.bulk).sum
 | []=>rfl
 | x :: l=>by simp only [ak.mK,List.map_cons,List.sum_cons,ak.sH l]
theorem ak.o9 (x:ak):ak.bulk x=1 + 1 + 1 + (x.kC.length + 1) + (ak.mK x.bT + 1) + ((List.map (fun z:Str=>(z.length + 1)) x.keys).sum + 1) + 1:=by cases x; rfl
mutual
def ah.bulk :ah→Nat
 | ⟨a0,a1,a2,a3,a4⟩=>1 + (a1.length + 1) + (ak.bulk a2) + (ah.mK a3 + 1) + ((List.map (fun z:Str=>(z.length + 1)) a4).sum + 1) + 1
def ah.mK :List ah→Nat
 | []=>0
 | x :: xs=>ah.bulk x + ah.mK xs
end
theorem ah.sH :∀ l:List ah,ah.mK l=(l.map ah.bulk).sum
 | []=>rfl
 | x :: l=>by simp only [ah.mK,List.map_cons,List.sum_cons,ah.sH l]
theorem ah.o9 (x:ah):ah.bulk x=1 + (x.name.length + 1) + (ak.bulk x.value) + (ah.mK x.args + 1) + ((List.map (fun z:Str=>(z.length + 1)) x.keys).sum + 1) + 1:=by cases x; rfl
def aM.bulk (x:aM):Nat:=(x.text.length + 1) + 1 + (ah.bulk x.expr) + 1
def dV.bulk (x:dV):Nat:=(x.name.length + 1) + (ak.bulk x.value) + 1
def bY.bulk (x:bY):Nat:=1 + 1
mutual
def aG.bulk :aG→Nat
 | ⟨a0,a1⟩=>1 + (aG.mK a1 + 1) + 1
def aG.mK :List aG→Nat
 | []=>0
 | x :: xs=>aG.bulk x + aG.mK xs
end
theorem aG.sH :∀ l:List aG,aG.mK l=(l.map aG.bulk).sum
 | []=>rfl
 | x :: l=>by simp only [aG.mK,List.map_cons,List.sum_cons,aG.sH l]
theorem aG.o9 (x:aG):aG.bulk x=1 + (aG.mK x.elem + 1) + 1:=by cases x; rfl
def dM.bulk (x:dM):Nat:=(x.name.length + 1) + (aG.bulk x.D_) + 1
def ZF.bulk (x:ZF):Nat:=1 + 1 + 1 + 1 + 1
def Aa.bulk (x:Aa):Nat:=1 + 1 + 1 + 1 + 1
def ZE.bulk (x:ZE):Nat:=(x.msg.length + 1) + 1 + 1
def tN.bulk (x:tN):Nat:=(x.msg.length + 1) + 1 + 1
def ZB.bulk (x:ZB):Nat:=1 + 1 + 1 + (x.kC.length + 1) + (ak.mK x.bT + 1) + ((List.map (fun z:Str=>(z.length + 1)) x.keys).sum + 1) + 1
def ZA.bulk (x:ZA):Nat:=1 + (x.name.length + 1) + (ak.bulk x.value) + (ah.mK x.args + 1) + ((List.map (fun z:Str=>(z.length + 1)) x.keys).sum + 1) + 1
def Zz.bulk (x:Zz):Nat:=(x.text.length + 1) + 1 + (ah.bulk x.expr) + 1
def Zy.bulk (x:Zy):Nat:=(x.name.length + 1) + (ak.bulk x.value) + 1
def Zx.bulk (x:Zx):Nat:=1 + (aG.mK x.elem + 1) + 1
def Zw.bulk (x:Zw):Nat:=(x.name.length + 1) + (aG.bulk x.D_) + 1
def Zv.bulk (x:Zv):Nat:=1 + (x.text.length + 1) + 1 + 1
def Zu.bulk (x:Zu):Nat:=((List.map (fun z:av=>(av.bulk z)) x.ts).sum + 1) + 1 + 1
def Zt.bulk (x:Zt):Nat:=1 + 1 + 1
def Zr.bulk (x:Zr):Nat:=1 + 1
def Zq.bulk (x:Zq):Nat:=1 + 1 + 1
def DK.bulk (x:DK):Nat:=1 + 1 + 1
def Zp.bulk (x:Zp):Nat:=1 + 1 + 1 + 1
def A9.bulk (x:A9):Nat:=1 + 1 + 1 + 1
def Zo.bulk (x:Zo):Nat:=(x.s.length + 1) + 1
def A_.bulk (x:A_):Nat:=(x.s.length + 1) + 1
def Ia :Option Str:=
 some ([36,123]:List UInt8)
def mD (s1:Str) (vQ:Str):Option Bool:=
 if decide ((vQ.length:Int)≤(s1.length:Int)) then
  ay (sl s1 0 (vQ.length:Int)) fun x1=>
  some (x1 == vQ)
 else
  some false
def strings_HasPrefix (s1:Str) (vQ:Str):Option Bool:=
 mD s1 vQ
def lM (s1:Str):Nat→Int→Option Int
 | 0,_=>none
 | dA + 1,i1=>
  if decide (i1 < (s1.length:Int)) then
   ay (idx s1 i1) fun x1=>
   if (x1.toNat:Int) == 92 then
    lM s1 dA (bV ((bV (i1 + 1)) + 1))
   else
    if (x1.toNat:Int) == 34 then
     some (bV (i1 + 1))
    else
     lM s1 dA (bV (i1 + 1))
  else
   some (s1.length:Int)
def w_ (s1:Str) (cZ:Int):Option Int:=
 lM s1 BIG (bV (cZ + 1))
def iB (s1:Str):Nat→Int→Int→Option Int
 | 0,_,_=>none
 | dA + 1,at2,eY=>
  if decide (at2 < (s1.length:Int)) then
   ay (idx s1 at2) fun x1=>
   if (x1.toNat:Int) == 34 then
    ay (w_ s1 at2) fun at3=>
    iB s1 dA at3 eY
   else
    if (x1.toNat:Int) == 123 then
     iB s1 dA (bV (at2 + 1)) (bV (eY + 1))
    else
     if (x1.toNat:Int) == 125 then
      if eY == 0 then
       some at2
      else
       iB s1 dA (bV (at2 + 1)) (bV (eY - 1))
     else
      iB s1 dA (bV (at2 + 1)) eY
  else
   some (-1)
def wo (s1:Str) (cZ:Int):Option Int:=
 iB s1 BIG cZ 0
def wm (nL:Int):Option Bool:=
 some ((nL == 32) || (nL == 9))
def pI (s1:Str) (ER:UInt8→Option Bool):Nat→Int→Option Int
 | 0,_=>none
 | dA + 1,at2=>
  ay (
    if decide (at2 < (s1.length:Int)) then
     ay (idx s1 at2) fun x1=>
     ER x1
    else
     some false) fun b1=>
  if b1 then
   pI s1 ER dA (bV (at2 + 1))
  else
   some at2
def vw (s1:Str) (cZ:Int) (ER:UInt8→Option Bool):Option Int:=
 pI s1 ER BIG cZ
def r_ (c1:UInt8):Option Bool:=
 some ((c1.toNat:Int) != 10)
def ql (c1:UInt8):Option Bool:=
 some ((((decide (97≤(c1.toNat:Int))) && (decide ((c1.toNat:Int)≤122))) || ((decide (65≤(c1.toNat:Int))) && (decide ((c1.toNat:Int)≤90)))) || ((c1.toNat:Int) == 95))
def qc (c1:UInt8):Option Bool:=
 some ((decide (48≤(c1.toNat:Int))) && (decide ((c1.toNat:Int)≤57)))
def sV (c1:UInt8):Option Bool:=
 ay (ql c1) fun x1=>
 if x1 then
  some true
 else
  qc c1
def zO (bN:Str) (cZ:Int):Option (av × Int × Int):=
 ay (vw bN cZ sV) fun qx=>
 if decide (64 < (bV (qx - cZ))) then
  some ((av.mk 0 ([]:Str) 0),0,3)
 else
  ay (sl bN cZ qx) fun x1=>
  some ((av.mk 1 x1 cZ),qx,0)
def pJ (xq:Str):Nat→Int→Int→Option Bool
 | 0,_,_=>none
 | dA + 1,n1,i1=>
  if (decide (i1 < (xq.length:Int))) && (decide (n1≤9007199254740992)) then
   ay (idx xq i1) fun x1=>
   pJ xq dA (bV ((bV (10 * n1)) + ((x1 - 48).toNat:Int))) (bV (i1 + 1))
  else
   some (decide (9007199254740992 < n1))
def Ay (xq:Str):Option Bool:=
 pJ xq BIG 0 0
def wh (bN:Str) (cZ:Int):Option (av × Int × Int):=
 ay (vw bN cZ qc) fun qx=>
 ay (sl bN cZ qx) fun text1=>
 ay (
   if decide (1 < (text1.length:Int)) then
    ay (idx text1 0) fun x1=>
    some ((x1.toNat:Int) == 48)
   else
    some false) fun b1=>
 ay (
   if b1 then
    some true
   else
    if decide (qx < (bN.length:Int)) then
     ay (idx bN qx) fun x2=>
     ql x2
    else
     some false) fun b2=>
 if b2 then
  some ((av.mk 0 ([]:Str) 0),0,5)
 else
  ay (Ay text1) fun x4=>
  if x4 then
   some ((av.mk 0 ([]:Str) 0),0,2)
  else
   some ((av.mk 2 text1 cZ),qx,0)
def sW (c1:UInt8):Option Int:=
 ay (qc c1) fun x1=>
 if x1 then
  some ((c1 - 48).toNat:Int)
 else
  if (decide (97≤(c1.toNat:Int))) && (decide ((c1.toNat:Int)≤102)) then
   some (bV (((c1 - 97).toNat:Int) + 10))
  else
   if (decide (65≤(c1.toNat:Int))) && (decide ((c1.toNat:Int)≤70)) then
    some (bV (((c1 - 65).toNat:Int) + 10))
   else
    some (-1)
def uy (bN:Str) (cZ:Int):Option (UInt8 × Int):=
 if decide ((bN.length:Int)≤(bV (cZ + 1))) then
  some (0,0)
 else
  ay (idx bN (bV (cZ + 1))) fun c1=>
  if (c1.toNat:Int) == 34 then
   some (c1,2)
  else
   if (c1.toNat:Int) == 92 then
    some (c1,2)
   else
    if (c1.toNat:Int) == 110 then
     some (10,2)
    else
     if (c1.toNat:Int) == 116 then
      some (9,2)
     else
      if (c1.toNat:Int) == 120 then
       ay (
         if decide ((bV (cZ + 3)) < (bN.length:Int)) then
          ay (idx bN (bV (cZ + 2))) fun x1=>
          ay (sW x1) fun x2=>
          some (decide (0≤x2))
         else
          some false) fun b1=>
       ay (
         if b1 then
          ay (idx bN (bV (cZ + 3))) fun x3=>
          ay (sW x3) fun x4=>
          some (decide (0≤x4))
         else
          some false) fun b2=>
       if b2 then
        ay (idx bN (bV (cZ + 2))) fun x5=>
        ay (sW x5) fun x6=>
        ay (idx bN (bV (cZ + 3))) fun x7=>
        ay (sW x7) fun x8=>
        some ((Ft.byteOf (bV ((bV (16 * x6)) + x8))),4)
       else
        some (0,0)
      else
       some (0,0)
def xP (bN:Str) (cZ:Int):Option Bool:=
 ay (sl bN (bV (cZ + 1)) (bN.length:Int)) fun Ei=>
 if (Ei == ([]:Str)) || (Ei == ([120]:Str)) then
  some true
 else
  ay (
    if (Ei.length:Int) == 2 then
     ay (idx Ei 0) fun x1=>
     some ((x1.toNat:Int) == 120)
    else
     some false) fun b2=>
  if b2 then
   ay (idx Ei 1) fun x2=>
   ay (sW x2) fun x3=>
   some (decide (0≤x3))
  else
   some false
def oW (bN:Str) (cZ:Int):Nat→Int→Str→Option (av × Int × Int)
 | 0,_,_=>none
 | dA + 1,i1,b1=>
  if decide (i1 < (bN.length:Int)) then
   ay (idx bN i1) fun c1=>
   if (c1.toNat:Int) == 34 then
    if decide (4096 < (b1.length:Int)) then
     some ((av.mk 0 ([]:Str) 0),0,3)
    else
     some ((av.mk 3 b1 cZ),(bV (i1 + 1)),0)
   else
    if decide ((c1.toNat:Int) < 32) then
     some ((av.mk 0 ([]:Str) 0),0,5)
    else
     if (c1.toNat:Int) == 92 then
      je (uy bN i1) fun x1 n1=>
      ay (
        if n1 == 0 then
         xP bN i1
        else
         some false) fun b2=>
      if b2 then
       some ((av.mk 0 ([]:Str) 0),0,4)
      else
       if n1 == 0 then
        some ((av.mk 0 ([]:Str) 0),0,5)
       else
        ay (app b1 [x1]) fun b3=>
        oW bN cZ dA (bV (i1 + n1)) b3
     else
      ay (app b1 [c1]) fun b4=>
      oW bN cZ dA (bV (i1 + 1)) b4
  else
   some ((av.mk 0 ([]:Str) 0),0,4)
def zN (bN:Str) (cZ:Int):Option (av × Int × Int):=
 oW bN cZ BIG (bV (cZ + 1)) []
def jk (bN:Str) (cZ:Int):Nat→Int→Option (av × Int × Int)
 | 0,_=>none
 | dA + 1,x1=>
  if decide (x1 < (([2,1]:List Int).length:Int)) then
   ay (idx ([2,1]:List Int) x1) fun n1=>
   if decide ((bN.length:Int) < (bV (cZ + n1))) then
    jk bN cZ dA (bV (x1 + 1))
   else
    ay (sl bN cZ (bV (cZ + n1))) fun s1=>
    if s1 == ([124,124]:Str) then
     some ((av.mk 4 s1 cZ),(bV (cZ + n1)),0)
    else
     if s1 == ([38,38]:Str) then
      some ((av.mk 4 s1 cZ),(bV (cZ + n1)),0)
     else
      if s1 == ([61,61]:Str) then
       some ((av.mk 4 s1 cZ),(bV (cZ + n1)),0)
      else
       if s1 == ([33,61]:Str) then
        some ((av.mk 4 s1 cZ),(bV (cZ + n1)),0)
       else
        if s1 == ([60,61]:Str) then
         some ((av.mk 4 s1 cZ),(bV (cZ + n1)),0)
        else
         if s1 == ([62,61]:Str) then
          some ((av.mk 4 s1 cZ),(bV (cZ + n1)),0)
         else
          if s1 == ([60]:Str) then
           some ((av.mk 4 s1 cZ),(bV (cZ + n1)),0)
          else
           if s1 == ([62]:Str) then
            some ((av.mk 4 s1 cZ),(bV (cZ + n1)),0)
           else
            if s1 == ([43]:Str) then
             some ((av.mk 4 s1 cZ),(bV (cZ + n1)),0)
            else
             if s1 == ([45]:Str) then
              some ((av.mk 4 s1 cZ),(bV (cZ + n1)),0)
             else
              if s1 == ([42]:Str) then
               some ((av.mk 4 s1 cZ),(bV (cZ + n1)),0)
              else
               if s1 == ([47]:Str) then
                some ((av.mk 4 s1 cZ),(bV (cZ + n1)),0)
               else
                if s1 == ([37]:Str) then
                 some ((av.mk 4 s1 cZ),(bV (cZ + n1)),0)
                else
                 if s1 == ([33]:Str) then
                  some ((av.mk 4 s1 cZ),(bV (cZ + n1)),0)
                 else
                  if s1 == ([63]:Str) then
                   some ((av.mk 4 s1 cZ),(bV (cZ + n1)),0)
                  else
                   if s1 == ([58]:Str) then
                    some ((av.mk 4 s1 cZ),(bV (cZ + n1)),0)
                   else
                    if s1 == ([46]:Str) then
                     some ((av.mk 4 s1 cZ),(bV (cZ + n1)),0)
                    else
                     if s1 == ([44]:Str) then
                      some ((av.mk 4 s1 cZ),(bV (cZ + n1)),0)
                     else
                      if s1 == ([61]:Str) then
                       some ((av.mk 4 s1 cZ),(bV (cZ + n1)),0)
                      else
                       if s1 == ([40]:Str) then
                        some ((av.mk 4 s1 cZ),(bV (cZ + n1)),0)
                       else
                        if s1 == ([41]:Str) then
                         some ((av.mk 4 s1 cZ),(bV (cZ + n1)),0)
                        else
                         if s1 == ([91]:Str) then
                          some ((av.mk 4 s1 cZ),(bV (cZ + n1)),0)
                         else
                          if s1 == ([93]:Str) then
                           some ((av.mk 4 s1 cZ),(bV (cZ + n1)),0)
                          else
                           if s1 == ([123]:Str) then
                            some ((av.mk 4 s1 cZ),(bV (cZ + n1)),0)
                           else
                            if s1 == ([125]:Str) then
                             some ((av.mk 4 s1 cZ),(bV (cZ + n1)),0)
                            else
                             jk bN cZ dA (bV (x1 + 1))
  else
   some ((av.mk 0 ([]:Str) 0),0,5)
def rZ (bN:Str) (cZ:Int):Option (av × Int × Int):=
 jk bN cZ BIG 0
def xO (bN:Str) (cZ:Int):Option (av × Int × Int):=
 ay (idx bN cZ) fun c1=>
 ay (ql c1) fun x1=>
 if x1 then
  zO bN cZ
 else
  ay (qc c1) fun x5=>
  if x5 then
   wh bN cZ
  else
   if (c1.toNat:Int) == 34 then
    zN bN cZ
   else
    rZ bN cZ
def r9 (op1:Str) (eY:Int):Option Int:=
 if op1 == ([40]:Str) then
  some (bV (eY + 1))
 else
  if op1 == ([91]:Str) then
   some (bV (eY + 1))
  else
   if op1 == ([41]:Str) then
    some (if 0 < (bV (eY - 1)) then (bV (eY - 1)) else 0)
   else
    if op1 == ([93]:Str) then
     some (if 0 < (bV (eY - 1)) then (bV (eY - 1)) else 0)
    else
     some eY
def jc (bN:Str):Nat→List av→Int→Int→Nat→Option (List av × Int × Int)
 | 0,_,_,_,_=>none
 | dA + 1,dF,iZ,eY,pos1=>
  if decide (pos1 < bN.length) then
   ay (
     if decide ((pos1:Int) < iZ) then
      some true
     else
      wm ((dec bN pos1).1:Int)) fun b1=>
   if b1 then
    jc bN dA dF iZ eY (pos1 + (dec bN pos1).2)
   else
    if ((dec bN pos1).1:Int) == 35 then
     ay (vw bN (pos1:Int) r_) fun yC=>
     jc bN dA dF yC eY (pos1 + (dec bN pos1).2)
    else
     if ((dec bN pos1).1:Int) == 10 then
      ay (
        if eY == 0 then
         if (dF.length:Int) == 0 then
          some true
         else
          ay (idx dF (bV ((dF.length:Int) - 1))) fun e1=>
          some (e1.kind != 5)
        else
         some false) fun b2=>
      if b2 then
       ay (app dF [(av.mk 5 ([]:Str) (pos1:Int))]) fun yM=>
       jc bN dA yM iZ eY (pos1 + (dec bN pos1).2)
      else
       jc bN dA dF iZ eY (pos1 + (dec bN pos1).2)
     else
      lQ (xO bN (pos1:Int)) fun x2 qx e2=>
      if e2 != 0 then
       some ([],(pos1:Int),e2)
      else
       if x2.kind == 4 then
        ay (r9 x2.text eY) fun L9=>
        ay (app dF [x2]) fun Sk=>
        jc bN dA Sk qx L9 (pos1 + (dec bN pos1).2)
       else
        ay (app dF [x2]) fun Yw=>
        jc bN dA Yw qx eY (pos1 + (dec bN pos1).2)
  else
   some (dF,0,0)
def mW (bN:Str):Option (List av × Int × Int):=
 if decide (65536 < (bN.length:Int)) then
  some ([],0,3)
 else
  jc bN BIG [] 0 0 0
def uo (c1:UInt8):Option Bool:=
 some ((((decide (97≤(c1.toNat:Int))) && (decide ((c1.toNat:Int)≤122))) || ((decide (65≤(c1.toNat:Int))) && (decide ((c1.toNat:Int)≤90)))) || ((c1.toNat:Int) == 95))
def mV (c1:UInt8):Option Bool:=
 some ((decide (48≤(c1.toNat:Int))) && (decide ((c1.toNat:Int)≤57)))
def pF (s1:Str):Nat→Int→Option Bool
 | 0,_=>none
 | dA + 1,i1=>
  if decide (i1 < (s1.length:Int)) then
   ay (idx s1 i1) fun x3=>
   ay (uo x3) fun x4=>
   ay (
     if !x4 then
      ay (idx s1 i1) fun x5=>
      ay (mV x5) fun x6=>
      some (!x6)
     else
      some false) fun b2=>
   if b2 then
    some false
   else
    pF s1 dA (bV (i1 + 1))
  else
   some true
def vv (s1:Str):Option Bool:=
 ay (
   if (decide ((s1.length:Int) < 1)) || (decide (64 < (s1.length:Int))) then
    some true
   else
    ay (idx s1 0) fun x1=>
    ay (uo x1) fun x2=>
    some (!x2)) fun b1=>
 if b1 then
  some false
 else
  pF s1 BIG 0
def strconv_Itoa (n1:Int):Option Str:=
 if -9223372036854775808≤n1∧n1≤9223372036854775807 then some (VA n1) else none
def strconv_Atoi (s1:Str):Option (Int × Option Nat):=
 if s1.length≤281474976710656 then some ((Cn s1).2,if (Cn s1).1=0 then none else some 353) else none
def kQ (s1:Str):Nat→Int→Option Bool
 | 0,_=>none
 | dA + 1,i1=>
  if decide (i1 < (s1.length:Int)) then
   ay (idx s1 i1) fun x2=>
   ay (mV x2) fun x3=>
   if !x3 then
    some false
   else
    kQ s1 dA (bV (i1 + 1))
  else
   je (strconv_Atoi s1) fun n1 SX=>
   some ((SX.isNone) && (decide (n1≤9007199254740992)))
def rW (s1:Str):Option Bool:=
 ay (
   if s1 == ([]:Str) then
    some true
   else
    if decide (1 < (s1.length:Int)) then
     ay (idx s1 0) fun x1=>
     some ((x1.toNat:Int) == 48)
    else
     some false) fun b1=>
 if b1 then
  some false
 else
  kQ s1 BIG 0
def jr (t1:av):Option Bool:=
 if t1.kind == 1 then
  vv t1.text
 else
  if t1.kind == 2 then
   rW t1.text
  else
   if t1.kind == 3 then
    some (decide ((t1.text.length:Int)≤4096))
   else
    if t1.kind == 4 then
     some true
    else
     some false
def jv (nL:aj):Option (av × aj):=
 ay (
   if decide (nL.at_ < (nL.ts.length:Int)) then
    ay (idx nL.ts nL.at_) fun e1=>
    jr e1
   else
    some false) fun b1=>
 if b1 then
  ay (idx nL.ts nL.at_) fun e2=>
  some (e2,nL)
 else
  some ((av.mk 0 ([]:Str) 0),nL)
def sS (nL:aj) (op1:Str):Option (Bool × aj):=
 je (jv nL) fun x1 y1=>
 some (((x1.kind == 4) && (x1.text == op1)),y1)
def dK (nL:aj) (op1:Str):Option (Bool × aj):=
 je (sS nL op1) fun x1 y1=>
 if !x1 then
  some (false,y1)
 else
  some (true,(aj.mk y1.ts (bV (y1.at_ + 1))))
def gW (nL:aj) (e1:Int):Option (g_ aA Unit × aj):=
 some (.bad (aA.mk nL.at_ e1),nL)
def jy (nL:aj):Option (g_ aA av × aj):=
 if decide ((nL.ts.length:Int)≤nL.at_) then
  gG (gW nL 4) (fun e1 y2=>some (.bad e1,y2)) fun _ y1=>
  je (jv y1) fun x1 y3=>
  if x1.kind == 0 then
   gG (gW y3 5) (fun e2 y5=>some (.bad e2,y5)) fun _ y4=>
   some (.ok x1,y4)
  else
   some (.ok x1,y3)
 else
  je (jv nL) fun x2 y6=>
  if x2.kind == 0 then
   gG (gW y6 5) (fun e3 y8=>some (.bad e3,y8)) fun _ y7=>
   some (.ok x2,y7)
  else
   some (.ok x2,y6)
def pG (v1:ak):Option ah:=
 some (ah.mk 1 ([]:Str) v1 [] [])
def oC (s1:Str):Option Bool:=
 some (((s1 == ([116,114,117,101]:Str)) || (s1 == ([102,97,108,115,101]:Str))) || (s1 == ([110,117,108,108]:Str)))
def fD (nL:aj) (op1:Str):Option (g_ aA Unit × aj):=
 gG (jy nL) (fun e1 y2=>some (.bad e1,y2)) fun x1 y1=>
 je (dK y1 op1) fun x2 y3=>
 if !x2 then
  gG (gW y3 5) (fun e2 y5=>some (.bad e2,y5)) fun _ y4=>
  some (.ok (),y4)
 else
  some (.ok (),y3)
def iA (op1:Str):Option Int:=
 if op1 == ([124,124]:Str) then
  some 2
 else
  if op1 == ([38,38]:Str) then
   some 3
  else
   if op1 == ([61,61]:Str) then
    some 4
   else
    if op1 == ([33,61]:Str) then
     some 4
    else
     if op1 == ([60]:Str) then
      some 4
     else
      if op1 == ([60,61]:Str) then
       some 4
      else
       if op1 == ([62]:Str) then
        some 4
       else
        if op1 == ([62,61]:Str) then
         some 4
        else
         if op1 == ([43]:Str) then
          some 5
         else
          if op1 == ([45]:Str) then
           some 5
          else
           if op1 == ([42]:Str) then
            some 6
           else
            if op1 == ([47]:Str) then
             some 6
            else
             if op1 == ([37]:Str) then
              some 6
             else
              some 0
def lF (aD:aj→Option (g_ aA ah × aj)) (aL:aj→Int→Option (g_ aA ah × aj)) (aR:aj→Option (g_ aA ah × aj)) (aS:aj→Option (g_ aA ah × aj)) (bg:aj→Option (g_ aA ah × aj)) (bf:aj→Str→Option (g_ aA ah × aj)) (aZ:aj→Str→Option (g_ aA (List ah) × aj)) (aT:aj→Option (g_ aA ah × aj)) (nL:aj):Option (g_ aA ah × aj):=
 gG (aL nL 2) (fun e1 y2=>some (.bad e1,y2)) fun x1 y1=>
 je (dK y1 ([63]:Str)) fun x2 y3=>
 if !x2 then
  some (.ok x1,y3)
 else
  gG (aD y3) (fun e2 y5=>some (.bad e2,y5)) fun x3 y4=>
  gG (fD y4 ([58]:Str)) (fun e3 y7=>some (.bad e3,y7)) fun _ y6=>
  gG (aD y6) (fun e4 y9=>some (.bad e4,y9)) fun x4 y8=>
  some (.ok (ah.mk 8 ([]:Str) (ak.mk 0 false 0 ([]:Str) [] []) [x1,x3,x4] []),y8)
def iN (aL:aj→Int→Option (g_ aA ah × aj)) (n1:Int):Nat→ah→aj→Option (g_ aA ah × aj)
 | 0,_,_=>none
 | dA + 1,e3,y5=>
  je (jv y5) fun x3 y6=>
  ay (
    if x3.kind != 4 then
     some true
    else
     ay (iA x3.text) fun x4=>
     some (x4 != n1)) fun b1=>
  if b1 then
   some (.ok e3,y6)
  else
   gG (aL (aj.mk y6.ts (bV (y6.at_ + 1))) (bV (n1 + 1))) (fun e4 y8=>some (.bad e4,y8)) fun x5 y7=>
   if n1 == 4 then
    some (.ok (ah.mk 7 x3.text (ak.mk 0 false 0 ([]:Str) [] []) [e3,x5] []),y7)
   else
    iN aL n1 dA (ah.mk 7 x3.text (ak.mk 0 false 0 ([]:Str) [] []) [e3,x5] []) y7
def jP (aD:aj→Option (g_ aA ah × aj)) (aL:aj→Int→Option (g_ aA ah × aj)) (aR:aj→Option (g_ aA ah × aj)) (aS:aj→Option (g_ aA ah × aj)) (bg:aj→Option (g_ aA ah × aj)) (bf:aj→Str→Option (g_ aA ah × aj)) (aZ:aj→Str→Option (g_ aA (List ah) × aj)) (aT:aj→Option (g_ aA ah × aj)) (nL:aj) (n1:Int):Option (g_ aA ah × aj):=
 if n1 == 7 then
  gG (aR nL) (fun e1 y2=>some (.bad e1,y2)) fun x1 y1=>
  some (.ok x1,y1)
 else
  gG (aL nL (bV (n1 + 1))) (fun e2 y4=>some (.bad e2,y4)) fun x2 y3=>
  iN aL n1 BIG x2 y3
def iX (aR:aj→Option (g_ aA ah × aj)) (aS:aj→Option (g_ aA ah × aj)):Nat→Int→aj→Option (g_ aA ah × aj)
 | 0,_,_=>none
 | dA + 1,x1,y1=>
  if decide (x1 < (([([33]:Str),([45]:Str)]:List Str).length:Int)) then
   ay (idx ([([33]:Str),([45]:Str)]:List Str) x1) fun op1=>
   je (dK y1 op1) fun x2 y2=>
   if x2 then
    gG (aR y2) (fun e1 y4=>some (.bad e1,y4)) fun x3 y3=>
    some (.ok (ah.mk 6 op1 (ak.mk 0 false 0 ([]:Str) [] []) [x3] []),y3)
   else
    iX aR aS dA (bV (x1 + 1)) y2
  else
   gG (aS y1) (fun e2 y6=>some (.bad e2,y6)) fun x4 y5=>
   some (.ok x4,y5)
def nH (aD:aj→Option (g_ aA ah × aj)) (aL:aj→Int→Option (g_ aA ah × aj)) (aR:aj→Option (g_ aA ah × aj)) (aS:aj→Option (g_ aA ah × aj)) (bg:aj→Option (g_ aA ah × aj)) (bf:aj→Str→Option (g_ aA ah × aj)) (aZ:aj→Str→Option (g_ aA (List ah) × aj)) (aT:aj→Option (g_ aA ah × aj)) (nL:aj):Option (g_ aA ah × aj):=
 iX aR aS BIG 0 nL
def gH (aD:aj→Option (g_ aA ah × aj)):Nat→ah→aj→Option (g_ aA ah × aj)
 | 0,_,_=>none
 | dA + 1,e2,y3=>
  je (dK y3 ([46]:Str)) fun x2 y4=>
  if x2 then
   gG (jy y4) (fun e3 y6=>some (.bad e3,y6)) fun x3 y5=>
   ay (
     if x3.kind != 1 then
      some true
     else
      oC x3.text) fun b1=>
   if b1 then
    gG (gW y5 5) (fun e4 y8=>some (.bad e4,y8)) fun _ y7=>
    gH aD dA (ah.mk 3 x3.text (ak.mk 0 false 0 ([]:Str) [] []) [e2] []) (aj.mk y7.ts (bV (y7.at_ + 1)))
   else
    gH aD dA (ah.mk 3 x3.text (ak.mk 0 false 0 ([]:Str) [] []) [e2] []) (aj.mk y5.ts (bV (y5.at_ + 1)))
  else
   je (dK y4 ([91]:Str)) fun x5 y9=>
   if x5 then
    gG (aD y9) (fun e5 ZG=>some (.bad e5,ZG)) fun x6 ZO=>
    gG (fD ZO ([93]:Str)) (fun e6 y13=>some (.bad e6,y13)) fun _ ZM=>
    gH aD dA (ah.mk 4 ([]:Str) (ak.mk 0 false 0 ([]:Str) [] []) [e2,x6] []) ZM
   else
    some (.ok e2,y9)
def nI (aD:aj→Option (g_ aA ah × aj)) (aL:aj→Int→Option (g_ aA ah × aj)) (aR:aj→Option (g_ aA ah × aj)) (aS:aj→Option (g_ aA ah × aj)) (bg:aj→Option (g_ aA ah × aj)) (bf:aj→Str→Option (g_ aA ah × aj)) (aZ:aj→Str→Option (g_ aA (List ah) × aj)) (aT:aj→Option (g_ aA ah × aj)) (nL:aj):Option (g_ aA ah × aj):=
 gG (bg nL) (fun e1 y2=>some (.bad e1,y2)) fun x1 y1=>
 gH aD BIG x1 y1
def oF (aD:aj→Option (g_ aA ah × aj)) (aL:aj→Int→Option (g_ aA ah × aj)) (aR:aj→Option (g_ aA ah × aj)) (aS:aj→Option (g_ aA ah × aj)) (bg:aj→Option (g_ aA ah × aj)) (bf:aj→Str→Option (g_ aA ah × aj)) (aZ:aj→Str→Option (g_ aA (List ah) × aj)) (aT:aj→Option (g_ aA ah × aj)) (nL:aj):Option (g_ aA ah × aj):=
 gG (jy nL) (fun e1 y2=>some (.bad e1,y2)) fun x1 y1=>
 if x1.kind == 2 then
  je (strconv_Atoi x1.text) fun n1 x2=>
  ay (pG (ak.mk 2 false n1 ([]:Str) [] [])) fun x3=>
  some (.ok x3,(aj.mk y1.ts (bV (y1.at_ + 1))))
 else
  if x1.kind == 3 then
   ay (pG (ak.mk 3 false 0 x1.text [] [])) fun x4=>
   some (.ok x4,(aj.mk y1.ts (bV (y1.at_ + 1))))
  else
   if x1.kind == 1 then
    gG (bf (aj.mk y1.ts (bV (y1.at_ + 1))) x1.text) (fun e2 y4=>some (.bad e2,y4)) fun x5 y3=>
    some (.ok x5,y3)
   else
    je (dK y1 ([40]:Str)) fun x6 y5=>
    if x6 then
     gG (aD y5) (fun e3 y7=>some (.bad e3,y7)) fun x7 y6=>
     gG (fD y6 ([41]:Str)) (fun e4 y9=>some (.bad e4,y9)) fun _ y8=>
     some (.ok x7,y8)
    else
     je (dK y5 ([91]:Str)) fun x8 ZO=>
     if x8 then
      gG (aZ ZO ([93]:Str)) (fun e5 ZM=>some (.bad e5,ZM)) fun x9 ZG=>
      some (.ok (ah.mk 9 ([]:Str) (ak.mk 0 false 0 ([]:Str) [] []) x9 []),ZG)
     else
      je (dK ZO ([123]:Str)) fun JK y13=>
      if JK then
       gG (aT y13) (fun e6 y15=>some (.bad e6,y15)) fun Rs y14=>
       some (.ok Rs,y14)
      else
       gG (gW y13 5) (fun e7 y17=>some (.bad e7,y17)) fun _ y16=>
       some (.ok (ah.mk 0 ([]:Str) (ak.mk 0 false 0 ([]:Str) [] []) [] []),y16)
def oD (aD:aj→Option (g_ aA ah × aj)) (aL:aj→Int→Option (g_ aA ah × aj)) (aR:aj→Option (g_ aA ah × aj)) (aS:aj→Option (g_ aA ah × aj)) (bg:aj→Option (g_ aA ah × aj)) (bf:aj→Str→Option (g_ aA ah × aj)) (aZ:aj→Str→Option (g_ aA (List ah) × aj)) (aT:aj→Option (g_ aA ah × aj)) (nL:aj) (s1:Str):Option (g_ aA ah × aj):=
 if s1 == ([110,117,108,108]:Str) then
  ay (pG (ak.mk 0 false 0 ([]:Str) [] [])) fun x1=>
  some (.ok x1,nL)
 else
  ay (oC s1) fun x2=>
  if x2 then
   ay (pG (ak.mk 1 (s1 == ([116,114,117,101]:Str)) 0 ([]:Str) [] [])) fun x3=>
   some (.ok x3,nL)
  else
   je (dK nL ([40]:Str)) fun x4 y1=>
   if x4 then
    gG (aZ y1 ([41]:Str)) (fun e1 y3=>some (.bad e1,y3)) fun x5 y2=>
    some (.ok (ah.mk 5 s1 (ak.mk 0 false 0 ([]:Str) [] []) x5 []),y2)
   else
    some (.ok (ah.mk 2 s1 (ak.mk 0 false 0 ([]:Str) [] []) [] []),y1)
def jZ (aD:aj→Option (g_ aA ah × aj)) (qx:Str):Nat→List ah→aj→Option (g_ aA (List ah) × aj)
 | 0,_,_=>none
 | dA + 1,dF,y2=>
  gG (aD y2) (fun e1 y4=>some (.bad e1,y4)) fun x2 y3=>
  ay (app dF [x2]) fun yM=>
  je (dK y3 ([44]:Str)) fun x3 y5=>
  if !x3 then
   gG (fD y5 qx) (fun e2 y7=>some (.bad e2,y7)) fun _ y6=>
   some (.ok yM,y6)
  else
   jZ aD qx dA yM y5
def oG (aD:aj→Option (g_ aA ah × aj)) (aL:aj→Int→Option (g_ aA ah × aj)) (aR:aj→Option (g_ aA ah × aj)) (aS:aj→Option (g_ aA ah × aj)) (bg:aj→Option (g_ aA ah × aj)) (bf:aj→Str→Option (g_ aA ah × aj)) (aZ:aj→Str→Option (g_ aA (List ah) × aj)) (aT:aj→Option (g_ aA ah × aj)) (nL:aj) (qx:Str):Option (g_ aA (List ah) × aj):=
 je (dK nL qx) fun x1 y1=>
 if x1 then
  some (.ok [],y1)
 else
  jZ aD qx BIG [] y1
def iH (aD:aj→Option (g_ aA ah × aj)):Nat→ah→aj→Option (g_ aA ah × aj)
 | 0,_,_=>none
 | dA + 1,dF,y2=>
  gG (jy y2) (fun e1 y4=>some (.bad e1,y4)) fun x2 y3=>
  if (x2.kind != 1) && (x2.kind != 3) then
   gG (gW y3 5) (fun e2 y6=>some (.bad e2,y6)) fun _ y5=>
   gG (fD (aj.mk y5.ts (bV (y5.at_ + 1))) ([58]:Str)) (fun e3 y8=>some (.bad e3,y8)) fun _ y7=>
   ay (app dF.keys ([x2.text]:List Str)) fun x3=>
   gG (aD y7) (fun e4 ZO=>some (.bad e4,ZO)) fun x4 y9=>
   ay (app dF.args [x4]) fun x5=>
   je (dK y9 ([44]:Str)) fun x6 ZG=>
   if !x6 then
    gG (fD ZG ([125]:Str)) (fun e5 y13=>some (.bad e5,y13)) fun _ ZM=>
    some (.ok (ah.mk dF.kind dF.name dF.value x5 x3),ZM)
   else
    iH aD dA (ah.mk dF.kind dF.name dF.value x5 x3) ZG
  else
   gG (fD (aj.mk y3.ts (bV (y3.at_ + 1))) ([58]:Str)) (fun e6 y15=>some (.bad e6,y15)) fun _ y14=>
   ay (app dF.keys ([x2.text]:List Str)) fun x7=>
   gG (aD y14) (fun e7 y17=>some (.bad e7,y17)) fun x8 y16=>
   ay (app dF.args [x8]) fun x9=>
   je (dK y16 ([44]:Str)) fun JK y18=>
   if !JK then
    gG (fD y18 ([125]:Str)) (fun e8 y20=>some (.bad e8,y20)) fun _ y19=>
    some (.ok (ah.mk dF.kind dF.name dF.value x9 x7),y19)
   else
    iH aD dA (ah.mk dF.kind dF.name dF.value x9 x7) y18
def mh (aD:aj→Option (g_ aA ah × aj)) (aL:aj→Int→Option (g_ aA ah × aj)) (aR:aj→Option (g_ aA ah × aj)) (aS:aj→Option (g_ aA ah × aj)) (bg:aj→Option (g_ aA ah × aj)) (bf:aj→Str→Option (g_ aA ah × aj)) (aZ:aj→Str→Option (g_ aA (List ah) × aj)) (aT:aj→Option (g_ aA ah × aj)) (nL:aj):Option (g_ aA ah × aj):=
 je (dK nL ([125]:Str)) fun x1 y1=>
 if x1 then
  some (.ok (ah.mk 10 ([]:Str) (ak.mk 0 false 0 ([]:Str) [] []) [] []),y1)
 else
  iH aD BIG (ah.mk 10 ([]:Str) (ak.mk 0 false 0 ([]:Str) [] []) [] []) y1
mutual
def aQ :Nat→aj→Option (g_ aA ah × aj)
 | 0,_=>none
 | k + 1,f_=>lF (aQ k) (aX k) (bQ k) (bU k) (cu k) (cO k) (bS k) (bO k) f_
def aX :Nat→aj→Int→Option (g_ aA ah × aj)
 | 0,_,_=>none
 | k + 1,f_,XA=>jP (aQ k) (aX k) (bQ k) (bU k) (cu k) (cO k) (bS k) (bO k) f_ XA
def bQ :Nat→aj→Option (g_ aA ah × aj)
 | 0,_=>none
 | k + 1,f_=>nH (aQ k) (aX k) (bQ k) (bU k) (cu k) (cO k) (bS k) (bO k) f_
def bU :Nat→aj→Option (g_ aA ah × aj)
 | 0,_=>none
 | k + 1,f_=>nI (aQ k) (aX k) (bQ k) (bU k) (cu k) (cO k) (bS k) (bO k) f_
def cu :Nat→aj→Option (g_ aA ah × aj)
 | 0,_=>none
 | k + 1,f_=>oF (aQ k) (aX k) (bQ k) (bU k) (cu k) (cO k) (bS k) (bO k) f_
def cO :Nat→aj→Str→Option (g_ aA ah × aj)
 | 0,_,_=>none
 | k + 1,f_,Dp=>oD (aQ k) (aX k) (bQ k) (bU k) (cu k) (cO k) (bS k) (bO k) f_ Dp
def bS :Nat→aj→Str→Option (g_ aA (List ah) × aj)
 | 0,_,_=>none
 | k + 1,f_,Dq=>oG (aQ k) (aX k) (bQ k) (bU k) (cu k) (cO k) (bS k) (bO k) f_ Dq
def bO :Nat→aj→Option (g_ aA ah × aj)
 | 0,_=>none
 | k + 1,f_=>mh (aQ k) (aX k) (bQ k) (bU k) (cu k) (cO k) (bS k) (bO k) f_
end
def pE (f_:aj):Option (g_ aA ah × aj):=aQ BIG f_
def BZ (f_:aj) (XA:Int):Option (g_ aA ah × aj):=aX BIG f_ XA
def FW (f_:aj):Option (g_ aA ah × aj):=bQ BIG f_
def FZ (f_:aj):Option (g_ aA ah × aj):=bU BIG f_
def GA (f_:aj):Option (g_ aA ah × aj):=cu BIG f_
def Gz (f_:aj) (Dp:Str):Option (g_ aA ah × aj):=cO BIG f_ Dp
def GD (f_:aj) (Dq:Str):Option (g_ aA (List ah) × aj):=bS BIG f_ Dq
def DT (f_:aj):Option (g_ aA ah × aj):=bO BIG f_
def Av (iK:List av):Option (ah × Int × Int):=
 gG (pE (aj.mk iK 0)) (fun f1 _=>some ((ah.mk 0 ([]:Str) (ak.mk 0 false 0 ([]:Str) [] []) [] []),f1.at_,f1.code)) fun e1 r1=>
 some (e1,r1.at_,0)
def qJ (jH:ah→Option Int) (e1:ah):Nat→Int→Int→Option Int
 | 0,_,_=>none
 | dA + 1,n1,x1=>
  if decide (x1 < (e1.args.length:Int)) then
   ay (idx e1.args x1) fun e2=>
   ay (jH e2) fun x2=>
   qJ jH e1 dA (bV (n1 + x2)) (bV (x1 + 1))
  else
   some n1
def vW (jH:ah→Option Int) (e1:ah):Option Int:=
 qJ jH e1 BIG 1 0
def kR :Nat→ah→Option Int
 | 0,_=>none
 | k + 1,lg=>vW (kR k) lg
def yL (lg:ah):Option Int:=kR BIG lg
def Au (v1:ak):Option Bool:=
 some ((((((v1.kind == 0) && (!v1.fU)) && (v1.kF == 0)) && (v1.kC == ([]:Str))) && ((v1.bT.length:Int) == 0)) && ((v1.keys.length:Int) == 0))
def mU (s1:Str):Option Bool:=
 ay (vv s1) fun x1=>
 if x1 then
  ay (oC s1) fun x2=>
  some (!x2)
 else
  some false
def vS (e1:ah):Option Bool:=
 if e1.kind == 2 then
  mU e1.name
 else
  if e1.kind == 3 then
   mU e1.name
  else
   if e1.kind == 5 then
    mU e1.name
   else
    if e1.kind == 6 then
     some ((e1.name == ([33]:Str)) || (e1.name == ([45]:Str)))
    else
     if e1.kind == 7 then
      ay (iA e1.name) fun x4=>
      some (decide (0 < x4))
     else
      some (e1.name == ([]:Str))
def vU (e1:ah):Option Bool:=
 if e1.kind == 1 then
  some ((e1.args.length:Int) == 0)
 else
  if e1.kind == 2 then
   some ((e1.args.length:Int) == 0)
  else
   if e1.kind == 3 then
    some ((e1.args.length:Int) == 1)
   else
    if e1.kind == 6 then
     some ((e1.args.length:Int) == 1)
    else
     if e1.kind == 4 then
      some ((e1.args.length:Int) == 2)
     else
      if e1.kind == 7 then
       some ((e1.args.length:Int) == 2)
      else
       if e1.kind == 8 then
        some ((e1.args.length:Int) == 3)
       else
        some true
def gK (s1:List Str) (f1:Str→Option Bool):Nat→Int→Option Int
 | 0,_=>none
 | dA + 1,i1=>
  if decide (i1 < (s1.length:Int)) then
   ay (idx s1 i1) fun e1=>
   ay (f1 e1) fun x1=>
   if x1 then
    some i1
   else
    gK s1 f1 dA (bV (i1 + 1))
  else
   some (-1)
def ji (s1:List Str) (f1:Str→Option Bool):Option Int:=
 gK s1 f1 BIG 0
def gL (s1:List Str) (f1:Str→Option Bool):Option Bool:=
 ay (ji s1 f1) fun x1=>
 some (decide (0≤x1))
def j5 (wO:Str):Option Bool:=
 some ((decide ((wO.length:Int) < 1)) || (decide (64 < (wO.length:Int))))
def vT (e1:ah):Option Bool:=
 if e1.kind != 10 then
  some ((e1.keys.length:Int) == 0)
 else
  if (e1.keys.length:Int) == (e1.args.length:Int) then
   ay (gL e1.keys j5) fun x1=>
   some (!x1)
  else
   some false
def ug {β:Type} (go:β→ak→Int→Option (Bool × β)) (v1:ak) (cB:Int):Nat→β→Int→Option (Bool × β)
 | 0,_,_=>none
 | dA + 1,s1,i1=>
  if decide (i1 < (v1.bT.length:Int)) then
   ay (idx v1.bT i1) fun x1=>
   je (go s1 x1 (bV (cB + 1))) fun b1 s2=>
   if !b1 then
    some (false,s2)
   else
    ug go v1 cB dA s2 (bV (i1 + 1))
  else
   some (true,s1)
def yF {β:Type} (go:β→ak→Int→Option (Bool × β)) (y:β→Int→ak→Option (Bool × β)) (s1:β) (v1:ak) (cB:Int):Option (Bool × β):=
 je (y s1 cB v1) fun b1 s2=>
 if !b1 then
  some (false,s2)
 else
  ug go v1 cB BIG s2 0
def nX {β:Type} (y:β→Int→ak→Option (Bool × β)):Nat→β→ak→Int→Option (Bool × β)
 | 0,_,_,_=>none
 | k + 1,s1,v1,cB=>yF (nX y k) y s1 v1 cB
def Gt {β:Type} (y:β→Int→ak→Option (Bool × β)) (s1:β) (v1:ak) (cB:Int):Option (Bool × β):=nX y BIG s1 v1 cB
def yG (v1:ak):Option Bool:=
 some ((((((v1.kind == 1) || (!v1.fU)) && ((v1.kind == 2) || (v1.kF == 0))) && ((v1.kind == 3) || (v1.kC == ([]:Str)))) && (((v1.kind == 4) || (v1.kind == 5)) || ((v1.bT.length:Int) == 0))) && ((v1.kind == 5) || ((v1.keys.length:Int) == 0)))
def Az (c1:UInt8):Option Bool:=
 some ((decide (48≤(c1.toNat:Int))) && (decide ((c1.toNat:Int)≤57)))
def wB (s1:Str):Nat→Int→Option Int
 | 0,_=>none
 | dA + 1,n1=>
  ay (
    if decide (n1 < (s1.length:Int)) then
     ay (idx s1 n1) fun x1=>
     Az x1
    else
     some false) fun b1=>
  if b1 then
   wB s1 dA (bV (n1 + 1))
  else
   some n1
def zi (s1:Str):Option Int:=
 wB s1 BIG 0
def iM (c1:UInt8):Nat→Str→Option Str
 | 0,_=>none
 | dA + 1,s2=>
  ay (
    if decide (0 < (s2.length:Int)) then
     ay (idx s2 0) fun x1=>
     some ((x1.toNat:Int) == (c1.toNat:Int))
    else
     some false) fun b1=>
  if b1 then
   ay (sl s2 1 (s2.length:Int)) fun s3=>
   iM c1 dA s3
  else
   some s2
def strings_trimLeftByte (s1:Str) (c1:UInt8):Option Str:=
 iM c1 BIG s1
def nk (s1:Str) (AU:Str):Option Str:=
 if (s1 == ([]:Str)) || (AU == ([]:Str)) then
  some s1
 else
  ay (
    if (AU.length:Int) == 1 then
     ay (idx AU 0) fun x1=>
     some (decide ((x1.toNat:Int) < 128))
    else
     some false) fun b1=>
  if b1 then
   ay (idx AU 0) fun x2=>
   strings_trimLeftByte s1 x2
  else
   none
def cmp_isNaN_int (x1:Int):Option Bool:=
 some (x1 != x1)
def cmp_Compare_int (x1:Int) (y1:Int):Option Int:=
 ay (cmp_isNaN_int x1) fun JJ=>
 ay (cmp_isNaN_int y1) fun DW=>
 if JJ then
  if DW then
   some 0
  else
   some (-1)
 else
  if DW then
   some 1
  else
   if decide (x1 < y1) then
    some (-1)
   else
    if decide (y1 < x1) then
     some 1
    else
     some 0
def cmp_isNaN_string (x1:Str):Option Bool:=
 some (!(x1 == x1))
def lN (x1:Str) (y1:Str):Option Int:=
 ay (cmp_isNaN_string x1) fun JJ=>
 ay (cmp_isNaN_string y1) fun DW=>
 if JJ then
  if DW then
   some 0
  else
   some (-1)
 else
  if DW then
   some 1
  else
   if Go.Op.bytesLess x1 y1 then
    some (-1)
   else
    if !(Go.Op.bytesLess x1 y1 || x1 == y1) then
     some 1
    else
     some 0
def uE (Dn:List Int):Nat→Int→Option Int
 | 0,_=>none
 | dA + 1,x1=>
  if decide (x1 < (Dn.length:Int)) then
   ay (idx Dn x1) fun V6=>
   if V6 != 0 then
    some V6
   else
    uE Dn dA (bV (x1 + 1))
  else
   some 0
def zT (Dn:List Int):Option Int:=
 uE Dn BIG 0
def uz (a1:Str) (b1:Str):Option Int:=
 ay (nk a1 ([48]:Str)) fun x1=>
 ay (nk b1 ([48]:Str)) fun y1=>
 ay (cmp_Compare_int (x1.length:Int) (y1.length:Int)) fun x2=>
 ay (lN x1 y1) fun x3=>
 ay (cmp_Compare_int (a1.length:Int) (b1.length:Int)) fun x4=>
 zT ([x2,x3,x4]:List Int)
def sF (x1:UInt8):Option Bool:=
 some ((x1.toNat:Int) != (x1.toNat:Int))
def pR (x1:UInt8) (y1:UInt8):Option Int:=
 ay (sF x1) fun JJ=>
 ay (sF y1) fun DW=>
 if JJ then
  if DW then
   some 0
  else
   some (-1)
 else
  if DW then
   some 1
  else
   if decide ((x1.toNat:Int) < (y1.toNat:Int)) then
    some (-1)
   else
    if decide ((y1.toNat:Int) < (x1.toNat:Int)) then
     some 1
    else
     some 0
def jM :Nat→Str→Str→Option Int
 | 0,_,_=>none
 | dA + 1,a2,b2=>
  if (!(a2 == ([]:Str))) && (!(b2 == ([]:Str))) then
   ay (zi a2) fun n1=>
   ay (zi b2) fun m1=>
   if (decide (0 < n1)) && (decide (0 < m1)) then
    ay (sl a2 0 n1) fun x1=>
    ay (sl b2 0 m1) fun x2=>
    ay (uz x1 x2) fun c1=>
    if c1 != 0 then
     some c1
    else
     ay (sl a2 n1 (a2.length:Int)) fun a3=>
     ay (sl b2 m1 (b2.length:Int)) fun b3=>
     jM dA a3 b3
   else
    ay (idx a2 0) fun x3=>
    ay (idx b2 0) fun x4=>
    if (x3.toNat:Int) != (x4.toNat:Int) then
     ay (idx a2 0) fun x5=>
     ay (idx b2 0) fun x6=>
     pR x5 x6
    else
     ay (sl a2 1 (a2.length:Int)) fun a4=>
     ay (sl b2 1 (b2.length:Int)) fun b4=>
     jM dA a4 b4
  else
   cmp_Compare_int (a2.length:Int) (b2.length:Int)
def j6 (a1:Str) (b1:Str):Option Int:=
 jM BIG a1 b1
def pq (v1:ak):Nat→Int→Option Bool
 | 0,_=>none
 | dA + 1,i1=>
  if decide (i1 < (v1.keys.length:Int)) then
   ay (idx v1.keys i1) fun wO=>
   ay (
     if (decide ((wO.length:Int) < 1)) || (decide (64 < (wO.length:Int))) then
      some true
     else
      if decide (0 < i1) then
       ay (idx v1.keys (bV (i1 - 1))) fun e1=>
       ay (j6 e1 wO) fun x1=>
       some (decide (0≤x1))
      else
       some false) fun b1=>
   if b1 then
    some false
   else
    pq v1 dA (bV (i1 + 1))
  else
   some true
def xA (v1:ak):Option Bool:=
 if (v1.keys.length:Int) != (v1.bT.length:Int) then
  some false
 else
  pq v1 BIG 0
def zx (v1:ak) (cB:Int):Option Int:=
 if decide (16 < cB) then
  some 13
 else
  ay (
    if (decide (v1.kind < 0)) || (decide (5 < v1.kind)) then
     some true
    else
     ay (yG v1) fun x1=>
     some (!x1)) fun b1=>
  if b1 then
   some 1
  else
   if (decide (v1.kF < (-9007199254740992))) || (decide (9007199254740992 < v1.kF)) then
    some 2
   else
    if ((decide (4096 < (v1.kC.length:Int))) || (decide (1024 < (v1.bT.length:Int)))) || (decide (1024 < (v1.keys.length:Int))) then
     some 3
    else
     ay (
       if v1.kind == 5 then
        ay (xA v1) fun x2=>
        some (!x2)
       else
        some false) fun b2=>
     if b2 then
      some 1
     else
      if (((v1.kind == 4) || (v1.kind == 5)) && ((v1.bT.length:Int) == 0)) && (cB == 16) then
       some 13
      else
       some 0
def lS (s1:Option Int) (cB:Int) (x1:ak):Option (Bool × Option Int):=
 match s1 with
 | some _=>none
 | none=>
  ay (zx x1 cB) fun e1=>
  if !(e1 == 0) then
   some (false,some e1)
  else
   some (true,none)
def mX (v1:ak):Option Int:=
 je (Gt lS none v1 1) fun _ s1=>
 some (s1.getD 0)
def nE (l1:List Str):Nat→Int→List (Str × Int)→Option Bool
 | 0,_,_=>none
 | dA + 1,x1,y1=>
  if decide (x1 < (l1.length:Int)) then
   ay (idx l1 x1) fun s1=>
   if decide (1 < (sU (uq y1 s1 (bV ((sU y1 s1) + 1))) s1)) then
    some true
   else
    nE l1 dA (bV (x1 + 1)) (uq y1 s1 (bV ((sU y1 s1) + 1)))
  else
   some false
def qI (l1:List Str):Option Bool:=
 nE l1 BIG 0 []
def xK (e1:ah) (cB:Int):Option Int:=
 if decide (16 < cB) then
  some 13
 else
  ay (
    if (decide (e1.kind < 1)) || (decide (10 < e1.kind)) then
     some true
    else
     if e1.kind != 1 then
      ay (Au e1.value) fun x1=>
      some (!x1)
     else
      some false) fun b1=>
  ay (
    if b1 then
     some true
    else
     ay (vS e1) fun x2=>
     some (!x2)) fun b3=>
  ay (
    if b3 then
     some true
    else
     ay (vU e1) fun x3=>
     some (!x3)) fun b4=>
  ay (
    if b4 then
     some true
    else
     ay (vT e1) fun x4=>
     some (!x4)) fun b5=>
  if b5 then
   some 1
  else
   ay (
     if e1.kind == 1 then
      ay (mX e1.value) fun x5=>
      some (x5 != 0)
     else
      some false) fun b6=>
   if b6 then
    mX e1.value
   else
    if decide (1024 < (e1.args.length:Int)) then
     some 3
    else
     ay (qI e1.keys) fun x7=>
     if x7 then
      some 7
     else
      some 0
def qH (jG:ah→Int→Option Int) (e1:ah) (cB:Int):Nat→Int→Option Int
 | 0,_=>none
 | dA + 1,x1=>
  if decide (x1 < (e1.args.length:Int)) then
   ay (idx e1.args x1) fun e2=>
   ay (jG e2 (bV (cB + 1))) fun f2=>
   if f2 != 0 then
    some f2
   else
    qH jG e1 cB dA (bV (x1 + 1))
  else
   some 0
def vR (jG:ah→Int→Option Int) (e1:ah) (cB:Int):Option Int:=
 ay (xK e1 cB) fun f1=>
 if f1 != 0 then
  some f1
 else
  qH jG e1 cB BIG 0
def kP :Nat→ah→Int→Option Int
 | 0,_,_=>none
 | k + 1,lg,fM=>vR (kP k) lg fM
def CG (lg:ah) (fM:Int):Option Int:=kP BIG lg fM
def lT (e1:ah):Option Int:=
 ay (yL e1) fun x1=>
 if decide (4096 < x1) then
  some 15
 else
  CG e1 1
def xL (iK:List av):Option (ah × Int × Int):=
 lQ (Av iK) fun x1 n1 nN=>
 if nN != 0 then
  some ((ah.mk 0 ([]:Str) (ak.mk 0 false 0 ([]:Str) [] []) [] []),n1,nN)
 else
  ay (lT x1) fun zS=>
  if zS != 0 then
   some ((ah.mk 0 ([]:Str) (ak.mk 0 false 0 ([]:Str) [] []) [] []),0,zS)
  else
   some (x1,n1,0)
def yK (iK:List av) (n1:Int) (bN:Str):Option Int:=
 if decide (n1 < (iK.length:Int)) then
  ay (idx iK n1) fun e1=>
  some e1.at_
 else
  some (bN.length:Int)
def vV (bN:Str):Option (ah × Int × Int):=
 lQ (mW bN) fun iK cZ nN=>
 if nN != 0 then
  some ((ah.mk 0 ([]:Str) (ak.mk 0 false 0 ([]:Str) [] []) [] []),cZ,nN)
 else
  lQ (xL iK) fun x1 n1 zS=>
  if zS != 0 then
   ay (yK iK n1 bN) fun x2=>
   some ((ah.mk 0 ([]:Str) (ak.mk 0 false 0 ([]:Str) [] []) [] []),x2,zS)
  else
   if decide (n1 < (iK.length:Int)) then
    ay (idx iK n1) fun e1=>
    some ((ah.mk 0 ([]:Str) (ak.mk 0 false 0 ([]:Str) [] []) [] []),e1.at_,5)
   else
    some (x1,0,0)
def kE (jT:List aM) (text1:Str):Option (List aM):=
 if decide (0 < (text1.length:Int)) then app jT [(aM.mk text1 false (ah.mk 0 ([]:Str) (ak.mk 0 false 0 ([]:Str) [] []) [] []))] else some jT
def ko (s1:Str):Nat→Int→List aM→Str→Option (List aM × Int × Int)
 | 0,_,_,_=>none
 | dA + 1,cZ,jT,text1=>
  if decide (cZ < (s1.length:Int)) then
   ay (sl s1 cZ (s1.length:Int)) fun Ei=>
   ay (strings_HasPrefix Ei ([36,36]:Str)) fun b1=>
   if b1 then
    ay (app text1 [36]) fun RV=>
    ko s1 dA (bV (cZ + 2)) jT RV
   else
    ay (strings_HasPrefix Ei ([36,123]:Str)) fun b2=>
    if b2 then
     ay (wo s1 (bV (cZ + 2))) fun qx=>
     if decide (qx < 0) then
      some ([],cZ,4)
     else
      ay (sl s1 (bV (cZ + 2)) qx) fun x1=>
      lQ (vV x1) fun e1 n1 nN=>
      if nN != 0 then
       some ([],(bV ((bV (cZ + 2)) + n1)),nN)
      else
       ay (kE jT text1) fun Ql=>
       ay (app Ql [(aM.mk ([]:Str) true e1)]) fun Qk=>
       ko s1 dA (bV (qx + 1)) Qk []
    else
     ay (idx s1 cZ) fun c1=>
     ay (app text1 [c1]) fun X3=>
     ko s1 dA (bV (cZ + 1)) jT X3
  else
   ay (kE jT text1) fun Vs=>
   some (Vs,0,0)
def lU (s1:Str):Option (List aM × Int × Int):=
 if decide (4096 < (s1.length:Int)) then
  some ([],0,3)
 else
  ko s1 BIG 0 [] []
def AJ (gF:List dV):Nat→Int→List (Str × Int)→Option Int
 | 0,_,_=>none
 | dA + 1,x1,y1=>
  if decide (x1 < (gF.length:Int)) then
   ay (idx gF x1) fun e1=>
   ay (lT (ah.mk 2 e1.name (ak.mk 0 false 0 ([]:Str) [] []) [] [])) fun x2=>
   if x2 != 0 then
    some 1
   else
    ay (mX e1.value) fun e2=>
    if e2 != 0 then
     some e2
    else
     if decide (1 < (sU (uq y1 e1.name (bV ((sU y1 e1.name) + 1))) e1.name)) then
      some 7
     else
      AJ gF dA (bV (x1 + 1)) (uq y1 e1.name (bV ((sU y1 e1.name) + 1)))
  else
   some 0
def Ik (gF:List dV):Option Int:=
 if decide (1024 < (gF.length:Int)) then
  some 3
 else
  AJ gF BIG 0 []
def EM (e1:ah) (gF:List dV):Option (List dV × Int):=
 ay (Ik gF) fun f1=>
 if f1 != 0 then
  some ([],f1)
 else
  ay (lT e1) fun f2=>
  if f2 != 0 then
   some ([],f2)
  else
   some (gF,0)
def qw (s1:List dV) (name1:Str):Nat→Int→Option (g_ bY ak)
 | 0,_=>none
 | dA + 1,x1=>
  if decide (x1 < (s1.length:Int)) then
   ay (idx s1 x1) fun e1=>
   if e1.name == name1 then
    some (.ok e1.value)
   else
    qw s1 name1 dA (bV (x1 + 1))
  else
   none
def yu (s1:List dV) (name1:Str):Option (g_ bY ak):=
 qw s1 name1 BIG 0
def Ch (a1:ak) (b1:ak) (wO:Int):Option Bool:=
 some ((a1.kind == wO) && (b1.kind == wO))
def zm (ok1:Bool) (e1:Int):Option (g_ bY Unit):=
 if !ok1 then
  none
 else
  some (.ok ())
def CX (n1:Int):Option ak:=
 some (ak.mk 2 false n1 ([]:Str) [] [])
def EL (n1:Int):Option (g_ bY ak):=
 z_ (zm ((decide ((-9007199254740992)≤n1)) && (decide (n1≤9007199254740992))) 11) (fun e1=>some (.bad e1)) fun _=>
 ay (CX n1) fun x1=>
 some (.ok x1)
def MN (a1:ak) (b1:ak):Option (g_ bY ak):=
 ay (Ch a1 b1 2) fun x1=>
 if x1 then
  z_ (EL (bV (a1.kF + b1.kF))) (fun e1=>some (.bad e1)) fun x2=>
  some (.ok x2)
 else
  ay (Ch a1 b1 3) fun x3=>
  if x3 then
   z_ (zm (decide ((bV ((a1.kC.length:Int) + (b1.kC.length:Int)))≤4096)) 3) (fun e2=>some (.bad e2)) fun _=>
   none
  else
   ay (Ch a1 b1 4) fun x4=>
   z_ (zm x4 9) (fun e3=>some (.bad e3)) fun _=>
   z_ (zm (decide ((bV ((a1.bT.length:Int) + (b1.bT.length:Int)))≤1024)) 3) (fun e4=>some (.bad e4)) fun _=>
   ay (app [] a1.bT) fun l1=>
   none
def wE (gy:List dV→ah→Option (g_ bY ak)) (gM:List dV→ah→Option (g_ bY ak)) (s1:List dV) (e1:ah):Option (g_ bY ak):=
 if e1.kind == 1 then
  some (.ok e1.value)
 else
  if e1.kind == 2 then
   z_ (yu s1 e1.name) (fun e2=>some (.bad e2)) fun x1=>
   some (.ok x1)
  else
   if e1.kind == 3 then
    none
   else
    if e1.kind == 4 then
     ay (idx e1.args 0) fun e3=>
     z_ (gy s1 e3) (fun e4=>some (.bad e4)) fun x2=>
     none
    else
     if e1.kind == 5 then
      none
     else
      if e1.kind == 6 then
       none
      else
       if e1.kind == 7 then
        z_ (gM s1 e1) (fun e5=>some (.bad e5)) fun x3=>
        some (.ok x3)
       else
        if e1.kind == 8 then
         none
        else
         if e1.kind == 9 then
          none
         else
          none
def tX (gy:List dV→ah→Option (g_ bY ak)) (gM:List dV→ah→Option (g_ bY ak)) (s1:List dV) (e1:ah):Option (g_ bY ak):=
 ay (idx e1.args 0) fun e2=>
 z_ (gy s1 e2) (fun e3=>some (.bad e3)) fun x1=>
 if (e1.name == ([38,38]:Str)) || (e1.name == ([124,124]:Str)) then
  none
 else
  ay (idx e1.args 1) fun e4=>
  z_ (gy s1 e4) (fun e5=>some (.bad e5)) fun x2=>
  if e1.name == ([61,61]:Str) then
   none
  else
   if e1.name == ([33,61]:Str) then
    none
   else
    if e1.name == ([60]:Str) then
     none
    else
     if e1.name == ([60,61]:Str) then
      none
     else
      if e1.name == ([62]:Str) then
       none
      else
       if e1.name == ([62,61]:Str) then
        none
       else
        if e1.name == ([43]:Str) then
         z_ (MN x1 x2) (fun e6=>some (.bad e6)) fun x3=>
         some (.ok x3)
        else
         none
mutual
def kU :Nat→List dV→ah→Option (g_ bY ak)
 | 0,_,_=>none
 | k + 1,Dp,lg=>wE (kU k) (jS k) Dp lg
def jS :Nat→List dV→ah→Option (g_ bY ak)
 | 0,_,_=>none
 | k + 1,Dp,lg=>tX (kU k) (jS k) Dp lg
end
def Dx (Dp:List dV) (lg:ah):Option (g_ bY ak):=kU BIG Dp lg
def Ij (Dp:List dV) (lg:ah):Option (g_ bY ak):=jS BIG Dp lg
def zR (s1:List dV) (e1:ah):Option (ak × Int):=
 z_ (Dx s1 e1) (fun f1=>some ((ak.mk 0 false 0 ([]:Str) [] []),f1.code)) fun v1=>
 some (v1,0)
def xk (kM:ak→Option ak) (v1:ak):Nat→Int→ak→Option ak
 | 0,_,_=>none
 | dA + 1,x1,dF=>
  if decide (x1 < (v1.bT.length:Int)) then
   ay (idx v1.bT x1) fun e1=>
   ay (kM e1) fun x2=>
   ay (app dF.bT [x2]) fun x3=>
   xk kM v1 dA (bV (x1 + 1)) (ak.mk dF.kind dF.fU dF.kF dF.kC x3 dF.keys)
  else
   ay (app dF.keys v1.keys) fun x4=>
   some (ak.mk dF.kind dF.fU dF.kF dF.kC dF.bT x4)
def CY (kM:ak→Option ak) (v1:ak):Option ak:=
 xk kM v1 BIG 0 (ak.mk v1.kind v1.fU v1.kF v1.kC [] [])
def wF :Nat→ak→Option ak
 | 0,_=>none
 | k + 1,yc=>CY (wF k) yc
def MO (yc:ak):Option ak:=wF BIG yc
def Jl (e1:ah) (gF:List dV):Option (ak × Int):=
 je (EM e1 gF) fun s1 f1=>
 if f1 != 0 then
  some ((ak.mk 0 false 0 ([]:Str) [] []),f1)
 else
  je (zR s1 e1) fun x1 f2=>
  ay (MO x1) fun x2=>
  some (x2,f2)
def su (b1:Bool):Option Str:=
 if b1 then
  some ([116,114,117,101]:Str)
 else
  some ([102,97,108,115,101]:Str)
def strconv_FormatBool (b1:Bool):Option Str:=
 su b1
def strings_Join (l1:List Str) (t1:Str):Option Str:=
 if l1.length≤140737488355328∧(J6 l1 t1).length≤140737488355328 then some (J6 l1 t1) else none
def sI (jf:ak→Option Str) (v1:ak):Nat→List Str→Int→Option Str
 | 0,_,_=>none
 | dA + 1,Bj,i1=>
  if decide (i1 < (v1.bT.length:Int)) then
   ay (idx v1.bT i1) fun e1=>
   if v1.kind == 5 then
    none
   else
    ay (jf e1) fun x3=>
    ay (app Bj ([x3]:List Str)) fun Ur=>
    sI jf v1 dA Ur (bV (i1 + 1))
  else
   ay (strings_Join Bj ([44,32]:Str)) fun s2=>
   if v1.kind == 5 then
    ay (app ([123]:Str) s2) fun x4=>
    app x4 ([125]:Str)
   else
    ay (app ([91]:Str) s2) fun x6=>
    app x6 ([93]:Str)
def wQ (v1:ak):Nat→List Str→Int→Option Str
 | 0,_,_=>none
 | Mw + 1,Et,i2=>
  if decide (i2 < (v1.bT.length:Int)) then
   ay (idx v1.bT i2) fun e2=>
   none
  else
   ay (strings_Join Et ([44,32]:Str)) fun s3=>
   ay (app ([123]:Str) s3) fun x8=>
   app x8 ([125]:Str)
def xZ (jf:ak→Option Str) (v1:ak):Option Str:=
 if v1.kind == 1 then
  strconv_FormatBool v1.fU
 else
  if v1.kind == 2 then
   strconv_Itoa v1.kF
  else
   if v1.kind == 3 then
    none
   else
    if v1.kind == 4 then
     sI jf v1 BIG [] 0
    else
     if v1.kind == 5 then
      wQ v1 BIG [] 0
     else
      some ([110,117,108,108]:Str)
def qE :Nat→ak→Option Str
 | 0,_=>none
 | k + 1,yc=>xZ (qE k) yc
def Ba (yc:ak):Option Str:=qE BIG yc
def Gu (v1:ak):Option (Str × Int):=
 if (v1.kind == 4) || (v1.kind == 5) then
  some (([]:Str),9)
 else
  ay (mX v1) fun e1=>
  if e1 != 0 then
   some (([]:Str),e1)
  else
   if v1.kind == 0 then
    some (([]:Str),0)
   else
    if v1.kind == 3 then
     some (v1.kC,0)
    else
     ay (Ba v1) fun x1=>
     some (x1,0)
def yj (p1:aM) (gF:List dV):Option (Str × Int):=
 if !p1.Oh then
  some (p1.text,0)
 else
  je (Jl p1.expr gF) fun x1 nN=>
  if nN != 0 then
   some (([]:Str),nN)
  else
   Gu x1
def sZ (gF:List dV) (ps1:List aM):Nat→Int→Str→Option (Str × Int)
 | 0,_,_=>none
 | dA + 1,x2,b1=>
  if decide (x2 < (ps1.length:Int)) then
   ay (idx ps1 x2) fun e1=>
   je (yj e1 gF) fun t1 VJ=>
   if VJ != 0 then
    some (([]:Str),VJ)
   else
    ay (app b1 t1) fun b2=>
    sZ gF ps1 dA (bV (x2 + 1)) b2
  else
   if decide (4096 < (b1.length:Int)) then
    some (([]:Str),3)
   else
    some (b1,0)
def Bl (s1:Str) (gF:List dV):Option (Str × Int):=
 lQ (lU s1) fun ps1 x1 nN=>
 if nN != 0 then
  some (([]:Str),nN)
 else
  ay (Ik gF) fun zS=>
  if zS != 0 then
   some (([]:Str),zS)
  else
   sZ gF ps1 BIG 0 []
def lJ {β:Type} (y:β→ah→Option (Bool × β)) (ps1:List aM):Nat→β→Int→Option β
 | 0,_,_=>none
 | dA + 1,s1,i1=>
  if decide (i1 < (ps1.length:Int)) then
   ay (idx ps1 i1) fun p1=>
   if p1.Oh then
    je (y s1 p1.expr) fun b1 s2=>
    if !b1 then
     some s2
    else
     lJ y ps1 dA s2 (bV (i1 + 1))
   else
    lJ y ps1 dA s1 (bV (i1 + 1))
  else
   some s1
def qo {β:Type} (y:β→ah→Option (Bool × β)) (s1:β) (ps1:List aM):Option β:=lJ y ps1 BIG s1 0
def CV (EB:List Str):Option (List Str):=
 if (EB.all fun s=>decide (s.length < 4611686018427387904)) && decide (EB.length≤Gm) then some (YE EB) else none
def nA (go:ah→List Str→Option (List Str)) (e1:ah):Nat→List Str→Int→Option (List Str)
 | 0,_,_=>none
 | dA + 1,dF,i1=>
  if decide (i1 < (e1.args.length:Int)) then
   ay (idx e1.args i1) fun a1=>
   ay (go a1 dF) fun yM=>
   nA go e1 dA yM (bV (i1 + 1))
  else
   some dF
def yw (go:ah→List Str→Option (List Str)) (e1:ah) (dF:List Str):Option (List Str):=
 if e1.kind == 2 then
  ay (app dF [e1.name]) fun yM=>
  nA go e1 BIG yM 0
 else
  nA go e1 BIG dF 0
def uM :Nat→ah→List Str→Option (List Str)
 | 0,_,_=>none
 | k + 1,e1,dF=>yw (uM k) e1 dF
def ET (e1:ah):Option (List Str):=
 ay (uM BIG e1 []) fun dF=>
 CV dF
def wu (a1:List ah) (x1:ah):Option (Bool × List ah):=
 ay (app a1 [x1]) fun a2=>
 some (true,a2)
def CU (s1:Str):Option (List Str × Int):=
 lQ (lU s1) fun ps1 _ nN=>
 if nN != 0 then
  some ([],nN)
 else
  ay (qo wu [] ps1) fun a1=>
  ay (ET (ah.mk 9 ([]:Str) (ak.mk 0 false 0 ([]:Str) [] []) a1 [])) fun x1=>
  some (x1,0)
def Gv (v1:ak):Option Str:=
 ay (mX v1) fun x1=>
 if x1 != 0 then
  some ([]:Str)
 else
  Ba v1
def CJ (e1:ah):Option Int:=
 if e1.kind == 8 then
  some 1
 else
  if e1.kind == 7 then
   iA e1.name
  else
   if e1.kind == 6 then
    some 7
   else
    if ((e1.kind == 1) && (e1.value.kind == 2)) && (decide (e1.value.kF < 0)) then
     some 7
    else
     some 8
def yh (iO:ah→Option Str) (fE:ah→Int→Option Str) (e1:ah):Option Str:=
 if e1.kind == 1 then
  Gv e1.value
 else
  if e1.kind == 2 then
   some e1.name
  else
   if e1.kind == 3 then
    ay (idx e1.args 0) fun e2=>
    ay (fE e2 8) fun x2=>
    ay (app x2 ([46]:Str)) fun x3=>
    app x3 e1.name
   else
    if e1.kind == 4 then
     ay (idx e1.args 0) fun e3=>
     ay (fE e3 8) fun x5=>
     ay (app x5 ([91]:Str)) fun x6=>
     ay (idx e1.args 1) fun e4=>
     ay (fE e4 1) fun x7=>
     ay (app x6 x7) fun x8=>
     app x8 ([93]:Str)
    else
     if e1.kind == 5 then
      none
     else
      if e1.kind == 6 then
       ay (idx e1.args 0) fun e5=>
       ay (fE e5 7) fun JK=>
       app e1.name JK
      else
       if e1.kind == 7 then
        ay (iA e1.name) fun n1=>
        if n1 == 4 then
         ay (idx e1.args 0) fun e6=>
         ay (fE e6 (bV (n1 + 1))) fun Xz=>
         ay (app Xz ([32]:Str)) fun ZH=>
         ay (app ZH e1.name) fun x14=>
         ay (app x14 ([32]:Str)) fun x15=>
         ay (idx e1.args 1) fun e7=>
         ay (fE e7 (bV (n1 + 1))) fun x16=>
         app x15 x16
        else
         ay (idx e1.args 0) fun e8=>
         ay (fE e8 n1) fun x18=>
         ay (app x18 ([32]:Str)) fun x19=>
         ay (app x19 e1.name) fun x20=>
         ay (app x20 ([32]:Str)) fun x21=>
         ay (idx e1.args 1) fun e9=>
         ay (fE e9 (bV (n1 + 1))) fun x22=>
         app x21 x22
       else
        if e1.kind == 8 then
         ay (idx e1.args 0) fun e10=>
         ay (fE e10 2) fun x24=>
         ay (app x24 ([32,63,32]:Str)) fun x25=>
         ay (idx e1.args 1) fun e11=>
         ay (fE e11 1) fun x26=>
         ay (app x25 x26) fun x27=>
         ay (app x27 ([32,58,32]:Str)) fun x28=>
         ay (idx e1.args 2) fun e12=>
         ay (fE e12 1) fun x29=>
         app x28 x29
        else
         if e1.kind == 9 then
          none
         else
          none
def CK (iO:ah→Option Str) (fE:ah→Int→Option Str) (e1:ah) (FC:Int):Option Str:=
 ay (CJ e1) fun x1=>
 if decide (x1 < FC) then
  ay (iO e1) fun x2=>
  ay (app ([40]:Str) x2) fun x3=>
  app x3 ([41]:Str)
 else
  iO e1
mutual
def mH :Nat→ah→Option Str
 | 0,_=>none
 | k + 1,lg=>yh (mH k) (qj k) lg
def qj :Nat→ah→Int→Option Str
 | 0,_,_=>none
 | k + 1,lg,mG=>CK (mH k) (qj k) lg mG
end
def F9 (lg:ah):Option Str:=mH BIG lg
def Us (lg:ah) (mG:Int):Option Str:=qj BIG lg mG
def Eu (e1:ah):Option Str:=
 ay (lT e1) fun x1=>
 if x1 != 0 then
  some ([]:Str)
 else
  F9 e1
def strings_ReplaceAll (s1:Str) (aam:Str) (new1:Str):Option Str:=
 if s1.length < 4294967281∧aam=[36]∧new1=[36,36] then some (s1.flatMap fun x=>if x == 36 then [36,36] else [x]) else none
def sj (ps1:List aM):Nat→Int→Str→Option Str
 | 0,_,_=>none
 | dA + 1,x1,b1=>
  if decide (x1 < (ps1.length:Int)) then
   ay (idx ps1 x1) fun e1=>
   if e1.Oh then
    ay (Eu e1.expr) fun x2=>
    ay (app ([36,123]:Str) x2) fun x3=>
    ay (app x3 ([125]:Str)) fun x4=>
    ay (app b1 x4) fun b2=>
    sj ps1 dA (bV (x1 + 1)) b2
   else
    ay (strings_ReplaceAll e1.text ([36]:Str) ([36,36]:Str)) fun x5=>
    ay (app b1 x5) fun b3=>
    sj ps1 dA (bV (x1 + 1)) b3
  else
   some b1
def EF (ps1:List aM):Option Str:=
 sj ps1 BIG 0 []
def u7 (jU:Int):Option Str:=
 if (decide (jU < 0)) || (decide (8≤jU)) then
  some ([]:Str)
 else
  idx ([([97,110,121]:Str),([110,117,108,108]:Str),([98,111,111,108]:Str),([105,110,116]:Str),([115,116,114,105,110,103]:Str),([108,105,115,116]:Str),([109,97,112]:Str),([110,101,118,101,114]:Str)]:List Str) jU
def kJ (jU:Int):Option Bool:=
 some ((jU == 5) || (jU == 6))
def kg :Nat→Int→aG→Option Int
 | 0,_,_=>none
 | dA + 1,cB,t2=>
  if decide (16 < cB) then
   some 13
  else
   ay (u7 t2.kind) fun x1=>
   ay (
     if x1 == ([]:Str) then
      some true
     else
      ay (kJ t2.kind) fun x2=>
      some (x2 && ((t2.elem.length:Int) != 1))) fun b1=>
   ay (
     if b1 then
      some true
     else
      ay (kJ t2.kind) fun x3=>
      some ((!x3) && ((t2.elem.length:Int) != 0))) fun b2=>
   if b2 then
    some 1
   else
    ay (kJ t2.kind) fun x4=>
    if !x4 then
     some 0
    else
     ay (idx t2.elem 0) fun e1=>
     kg dA (bV (cB + 1)) e1
def mO (t1:aG):Option Int:=
 kg BIG 1 t1
def yU (gF:List dM):Nat→Int→List (Str × Int)→Option Int
 | 0,_,_=>none
 | dA + 1,x1,y1=>
  if decide (x1 < (gF.length:Int)) then
   ay (idx gF x1) fun e1=>
   ay (lT (ah.mk 2 e1.name (ak.mk 0 false 0 ([]:Str) [] []) [] [])) fun x2=>
   if x2 != 0 then
    some 1
   else
    ay (mO e1.D_) fun e2=>
    if e2 != 0 then
     some e2
    else
     if decide (1 < (sU (uq y1 e1.name (bV ((sU y1 e1.name) + 1))) e1.name)) then
      some 7
     else
      yU gF dA (bV (x1 + 1)) (uq y1 e1.name (bV ((sU y1 e1.name) + 1)))
  else
   some 0
def FP (gF:List dM):Option Int:=
 if decide (1024 < (gF.length:Int)) then
  some 3
 else
  yU gF BIG 0 []
def jE (jU:Int):Option aG:=
 some (aG.mk jU [])
def zy (qL:aG→Option aG) (t1:aG):Option aG:=
 ay (kJ t1.kind) fun x1=>
 if !x1 then
  jE t1.kind
 else
  none
def rO :Nat→aG→Option aG
 | 0,_=>none
 | k + 1,TY=>zy (rO k) TY
def Cw (TY:aG):Option aG:=rO BIG TY
def Bc (sw:aG→aG→Option aG) (a1:aG) (b1:aG):Option aG:=
 if a1.kind == 7 then
  Cw b1
 else
  if b1.kind == 7 then
   Cw a1
  else
   if a1.kind != b1.kind then
    jE 0
   else
    ay (kJ a1.kind) fun x4=>
    if x4 then
     none
    else
     jE a1.kind
def uh :Nat→aG→aG→Option aG
 | 0,_,_=>none
 | k + 1,tJ,tH=>Bc (uh k) tJ tH
def D7 (tJ:aG) (tH:aG):Option aG:=uh BIG tJ tH
def vF (j_:ak→Option aG) (v1:ak):Nat→Int→aG→Option aG
 | 0,_,_=>none
 | dA + 1,x6,MR=>
  if decide (x6 < (v1.bT.length:Int)) then
   ay (idx v1.bT x6) fun e1=>
   ay (j_ e1) fun x7=>
   ay (D7 MR x7) fun x8=>
   vF j_ v1 dA (bV (x6 + 1)) x8
  else
   if v1.kind == 4 then
    none
   else
    none
def Bf (j_:ak→Option aG) (v1:ak):Option aG:=
 if v1.kind == 0 then
  jE 1
 else
  if v1.kind == 1 then
   jE 2
  else
   if v1.kind == 2 then
    jE 3
   else
    if v1.kind == 3 then
     jE 4
    else
     ay (jE 7) fun x5=>
     vF j_ v1 BIG 0 x5
def uj :Nat→ak→Option aG
 | 0,_=>none
 | k + 1,yc=>Bf (uj k) yc
def JR (yc:ak):Option aG:=uj BIG yc
def IJ (v1:ak):Option aG:=
 ay (mX v1) fun x1=>
 if x1 != 0 then
  jE 0
 else
  JR v1
def rA (gF:List dM) (name1:Str):Nat→Int→Option (aG × Int)
 | 0,_=>none
 | dA + 1,x1=>
  if decide (x1 < (gF.length:Int)) then
   ay (idx gF x1) fun e1=>
   if e1.name == name1 then
    some (e1.D_,0)
   else
    rA gF name1 dA (bV (x1 + 1))
  else
   some ((aG.mk 0 []),10)
def zU (gF:List dM) (name1:Str):Option (aG × Int):=
 rA gF name1 BIG 0
def kV (jU:Int):Option aG:=
 some (aG.mk jU [])
def l9 (jU:Int) (c1:aG) (c2:aG):Option Bool:=
 none
def jX (t1:aG):Option Bool:=
 some ((t1.kind == 0) || (t1.kind == 7))
def jN (a1:aG) (b1:aG) (jU:Int):Option Bool:=
 ay (jX a1) fun x1=>
 ay (
   if x1 || (a1.kind == jU) then
    ay (jX b1) fun x2=>
    some (x2 || (b1.kind == jU))
   else
    some false) fun b2=>
 some (b2 && ((a1.kind == jU) || (b1.kind == jU)))
def D8 (a1:aG) (b1:aG):Option Bool:=
 ay (mO a1) fun x1=>
 if x1 == 0 then
  ay (mO b1) fun x2=>
  some (x2 == 0)
 else
  some false
def D9 (a1:aG) (b1:aG):Option aG:=
 ay (D8 a1 b1) fun x1=>
 if !x1 then
  jE 0
 else
  D7 a1 b1
def Jt (a1:aG) (b1:aG):Option (aG × Int):=
 ay (jX a1) fun x1=>
 ay (
   if x1 then
    jX b1
   else
    some false) fun b2=>
 if b2 then
  if (a1.kind == 0) || (b1.kind == 0) then
   ay (kV 0) fun x3=>
   some (x3,0)
  else
   ay (kV 7) fun x4=>
   some (x4,0)
 else
  ay (jN a1 b1 3) fun x5=>
  if x5 then
   ay (kV 3) fun x6=>
   some (x6,0)
  else
   ay (jN a1 b1 4) fun x7=>
   if x7 then
    ay (kV 4) fun x8=>
    some (x8,0)
   else
    ay (jN a1 b1 5) fun x9=>
    if x9 then
     none
    else
     some ((aG.mk 0 []),9)
def Db (op1:Str) (a1:aG) (b1:aG):Option (aG × Int):=
 if op1 == ([38,38]:Str) then
  ay (l9 2 a1 b1) fun x1=>
  if x1 then
   ay (kV 2) fun x2=>
   some (x2,0)
  else
   some ((aG.mk 0 []),9)
 else
  if op1 == ([124,124]:Str) then
   ay (l9 2 a1 b1) fun x3=>
   if x3 then
    ay (kV 2) fun x4=>
    some (x4,0)
   else
    some ((aG.mk 0 []),9)
  else
   if op1 == ([61,61]:Str) then
    ay (kV 2) fun x5=>
    some (x5,0)
   else
    if op1 == ([33,61]:Str) then
     ay (kV 2) fun x6=>
     some (x6,0)
    else
     if op1 == ([60]:Str) then
      ay (jX a1) fun x7=>
      ay (
        if x7 then
         jX b1
        else
         some false) fun b2=>
      ay (
        if b2 then
         some true
        else
         jN a1 b1 3) fun b3=>
      ay (
        if b3 then
         some true
        else
         jN a1 b1 4) fun b4=>
      if b4 then
       ay (kV 2) fun Rs=>
       some (Rs,0)
      else
       some ((aG.mk 0 []),9)
     else
      if op1 == ([60,61]:Str) then
       ay (jX a1) fun Xz=>
       ay (
         if Xz then
          jX b1
         else
          some false) fun b5=>
       ay (
         if b5 then
          some true
         else
          jN a1 b1 3) fun b6=>
       ay (
         if b6 then
          some true
         else
          jN a1 b1 4) fun b7=>
       if b7 then
        ay (kV 2) fun x16=>
        some (x16,0)
       else
        some ((aG.mk 0 []),9)
      else
       if op1 == ([62]:Str) then
        ay (jX a1) fun x17=>
        ay (
          if x17 then
           jX b1
          else
           some false) fun b8=>
        ay (
          if b8 then
           some true
          else
           jN a1 b1 3) fun b9=>
        ay (
          if b9 then
           some true
          else
           jN a1 b1 4) fun b10=>
        if b10 then
         ay (kV 2) fun x21=>
         some (x21,0)
        else
         some ((aG.mk 0 []),9)
       else
        if op1 == ([62,61]:Str) then
         ay (jX a1) fun x22=>
         ay (
           if x22 then
            jX b1
           else
            some false) fun b11=>
         ay (
           if b11 then
            some true
           else
            jN a1 b1 3) fun b12=>
         ay (
           if b12 then
            some true
           else
            jN a1 b1 4) fun b13=>
         if b13 then
          ay (kV 2) fun x26=>
          some (x26,0)
         else
          some ((aG.mk 0 []),9)
        else
         if op1 == ([45]:Str) then
          ay (l9 3 a1 b1) fun x27=>
          if x27 then
           ay (kV 3) fun x28=>
           some (x28,0)
          else
           some ((aG.mk 0 []),9)
         else
          if op1 == ([42]:Str) then
           ay (l9 3 a1 b1) fun x29=>
           if x29 then
            ay (kV 3) fun x30=>
            some (x30,0)
           else
            some ((aG.mk 0 []),9)
          else
           if op1 == ([47]:Str) then
            ay (l9 3 a1 b1) fun x31=>
            if x31 then
             ay (kV 3) fun x32=>
             some (x32,0)
            else
             some ((aG.mk 0 []),9)
           else
            if op1 == ([37]:Str) then
             ay (l9 3 a1 b1) fun x33=>
             if x33 then
              ay (kV 3) fun x34=>
              some (x34,0)
             else
              some ((aG.mk 0 []),9)
            else
             if op1 == ([43]:Str) then
              Jt a1 b1
             else
              some ((aG.mk 0 []),9)
def Da (iT:ah→List dM→Option (aG × Int)) (l5:List ah→List dM→Option (List aG × Int)) (e1:ah) (gF:List dM):Option (aG × Int):=
 if e1.kind == 5 then
  none
 else
  je (l5 e1.args gF) fun iK f1=>
  if f1 != 0 then
   some ((aG.mk 0 []),f1)
  else
   if e1.kind == 1 then
    ay (IJ e1.value) fun x1=>
    some (x1,0)
   else
    if e1.kind == 2 then
     zU gF e1.name
    else
     if e1.kind == 3 then
      none
     else
      if e1.kind == 4 then
       none
      else
       if e1.kind == 6 then
        none
       else
        if e1.kind == 7 then
         ay (idx iK 0) fun e2=>
         ay (idx iK 1) fun e3=>
         Db e1.name e2 e3
        else
         if e1.kind == 8 then
          none
         else
          if e1.kind == 9 then
           none
          else
           none
def yT (iT:ah→List dM→Option (aG × Int)) (l1:List ah) (gF:List dM):Nat→List aG→Int→Option (List aG × Int)
 | 0,_,_=>none
 | dA + 1,dF,x1=>
  if decide (x1 < (l1.length:Int)) then
   ay (idx l1 x1) fun e1=>
   je (iT e1 gF) fun x2 f1=>
   if f1 != 0 then
    some ([],f1)
   else
    ay (app dF [x2]) fun yM=>
    yT iT l1 gF dA yM (bV (x1 + 1))
  else
   some (dF,0)
def ES (iT:ah→List dM→Option (aG × Int)) (l5:List ah→List dM→Option (List aG × Int)) (l1:List ah) (gF:List dM):Option (List aG × Int):=
 yT iT l1 gF BIG [] 0
mutual
def qz :Nat→ah→List dM→Option (aG × Int)
 | 0,_,_=>none
 | k + 1,lg,qF=>Da (qz k) (sG k) lg qF
def sG :Nat→List ah→List dM→Option (List aG × Int)
 | 0,_,_=>none
 | k + 1,XB,qF=>ES (qz k) (sG k) XB qF
end
def M5 (lg:ah) (qF:List dM):Option (aG × Int):=qz BIG lg qF
def Xm (XB:List ah) (qF:List dM):Option (List aG × Int):=sG BIG XB qF
def GU (e1:ah) (gF:List dM):Option (aG × Int):=
 ay (FP gF) fun f1=>
 if f1 != 0 then
  some ((aG.mk 0 []),f1)
 else
  ay (lT e1) fun f2=>
  if f2 != 0 then
   some ((aG.mk 0 []),f2)
  else
   je (M5 e1 gF) fun x1 f3=>
   if f3 != 0 then
    some ((aG.mk 0 []),f3)
   else
    ay (kV 7) fun x2=>
    ay (D9 x1 x2) fun x3=>
    some (x3,0)
def wz (gF:List dM) (s1:Option Int) (x1:ah):Option (Bool × Option Int):=
 match s1 with
 | some _=>none
 | none=>
  je (GU x1 gF) fun t1 nN=>
  if nN != 0 then
   some (false,some nN)
  else
   if (t1.kind == 5) || (t1.kind == 6) then
    some (false,some 9)
   else
    some (true,none)
def yP (s1:Str) (gF:List dM):Option Int:=
 lQ (lU s1) fun ps1 _ nN=>
 if nN != 0 then
  some nN
 else
  ay (FP gF) fun zS=>
  if zS != 0 then
   some zS
  else
   ay (qo (wz gF) none ps1) fun s2=>
   some (s2.getD 0)
def Cb :Option Bool:=
 ay (app ([97]:Str) ([36]:List UInt8)) fun x1=>
 ay (app x1 ([36]:List UInt8)) fun x2=>
 ay (app x2 ([98]:Str)) fun x3=>
 ay Ia fun x4=>
 ay (app x3 x4) fun x5=>
 ay (app x5 ([120,32,43,32,49,125,99]:Str)) fun s1=>
 lQ (lU s1) fun l1 x6 e1=>
 je (Bl s1 [(dV.mk ([120]:Str) (ak.mk 2 false 2 ([]:Str) [] []))]) fun t1 f1=>
 je (CU s1) fun n1 g1=>
 ay Ia fun x7=>
 ay (app ([97]:Str) x7) fun x8=>
 ay (app x8 ([49,32,43,125]:Str)) fun x9=>
 lQ (lU x9) fun JK cZ hx1=>
 ay (
   if (e1 != 0) || ((l1.length:Int) != 3) then
    some true
   else
    ay (idx l1 0) fun e2=>
    ay (app ([97]:Str) ([36]:List UInt8)) fun Rs=>
    ay (app Rs ([98]:Str)) fun Xz=>
    some (!(e2.text == Xz))) fun b1=>
 ay (
   if b1 then
    some true
   else
    ay (idx l1 1) fun e3=>
    some (!e3.Oh)) fun b2=>
 ay (
   if b2 then
    some true
   else
    ay (idx l1 2) fun e4=>
    some (!(e4.text == ([99]:Str)))) fun b3=>
 ay (
   if b3 || (f1 != 0) then
    some true
   else
    ay (app ([97]:Str) ([36]:List UInt8)) fun ZH=>
    ay (app ZH ([98,51,99]:Str)) fun x14=>
    some (!(t1 == x14))) fun b4=>
 if b4 then
  some false
 else
  ay (
    if (g1 == 0) && ((n1.length:Int) == 1) then
     ay (idx n1 0) fun e5=>
     some (e5 == ([120]:Str))
    else
     some false) fun b5=>
  ay (
    if (b5 && (cZ == 6)) && (hx1 == 4) then
     ay (EF l1) fun x15=>
     some (x15 == s1)
    else
     some false) fun b6=>
  ay (
    if b6 then
     ay (yP s1 [(dM.mk ([120]:Str) (aG.mk 3 []))]) fun x16=>
     some (x16 == 0)
    else
     some false) fun b7=>
  if b7 then
   ay (yP s1 []) fun x17=>
   some (x17 == 10)
  else
   some false
def uQ (l:List aM):Bool:=
 match l.getLast? with
 | some p=>p.Oh
 | none=>true
def vJ (l:List aM):Str:=
 match l.getLast? with
 | some p=>p.text
 | none=>[]
def Ah (l:List aM) (t:Str):List aM:=
 match l.getLast? with
 | some p=>l.dropLast ++ [aM.mk t p.Oh p.expr]
 | none=>l
def zD (l1:List aM) (c1:UInt8):Option (List aM):=
 if l1.length≤Gm then
  if ((l1.length:Int) == 0) || uQ l1 then
   app l1 [(aM.mk [c1] false (ah.mk 0 ([]:Str) (ak.mk 0 false 0 ([]:Str) [] []) [] []))]
  else
   ay (app (vJ l1) [c1]) fun t1=>
   some (Ah l1 t1)
 else
  none
def oV (s1:Str):Nat→Int→Option Int
 | 0,_=>none
 | dA + 1,at2=>
  ay (
    if decide (at2 < (s1.length:Int)) then
     ay (idx s1 at2) fun x1=>
     some ((x1.toNat:Int) != 34)
    else
     some false) fun b1=>
  if b1 then
   ay (idx s1 at2) fun x2=>
   if (x2.toNat:Int) == 92 then
    oV s1 dA (bV ((bV (at2 + 1)) + 1))
   else
    oV s1 dA (bV (at2 + 1))
  else
   some (bV (at2 + 1))
def Cx (s1:Str) (cZ:Int):Option Int:=
 oV s1 BIG (bV (cZ + 1))
def jq (s1:Str):Nat→Int→Int→Option Int
 | 0,_,_=>none
 | dA + 1,at2,eY=>
  if decide (at2 < (s1.length:Int)) then
   ay (idx s1 at2) fun x1=>
   if (x1.toNat:Int) == 34 then
    ay (Cx s1 at2) fun at3=>
    jq s1 dA at3 eY
   else
    if (x1.toNat:Int) == 123 then
     jq s1 dA (bV (at2 + 1)) (bV (eY + 1))
    else
     if (x1.toNat:Int) == 125 then
      if eY == 0 then
       some at2
      else
       jq s1 dA (bV (at2 + 1)) (bV (eY - 1))
     else
      jq s1 dA (bV (at2 + 1)) eY
  else
   some (-1)
def Ai (s1:Str) (cZ:Int):Option Int:=
 jq s1 BIG cZ 0
def nD (bN:Str):Nat→Int→Bool→Option Int
 | 0,_,_=>none
 | dA + 1,at2,xS=>
  ay (
    if decide (at2 < (bN.length:Int)) then
     ay (idx bN at2) fun x1=>
     some ((x1.toNat:Int) != 10)
    else
     some false) fun b1=>
  ay (
    if b1 then
     ay (
       if xS then
        some true
       else
        ay (idx bN at2) fun x2=>
        some ((x2.toNat:Int) == 32)) fun b3=>
     ay (
       if b3 then
        some true
       else
        ay (idx bN at2) fun x3=>
        some ((x3.toNat:Int) == 9)) fun b4=>
     if b4 then
      some true
     else
      ay (idx bN at2) fun x4=>
      some ((x4.toNat:Int) == 35)
    else
     some false) fun b2=>
  if b2 then
   ay (
     if xS then
      some true
     else
      ay (idx bN at2) fun x5=>
      some ((x5.toNat:Int) == 35)) fun b6=>
   nD bN dA (bV (at2 + 1)) b6
  else
   some at2
def ou (bN:Str) (cZ:Int):Option Int:=
 nD bN BIG cZ false
def nS (c1:UInt8):Option Bool:=
 some ((decide (48≤(c1.toNat:Int))) && (decide ((c1.toNat:Int)≤57)))
def qU (bN:Str) (cZ:Int):Nat→Int→Option Int
 | 0,_=>none
 | dA + 1,n1=>
  ay (
    if decide ((bV (cZ + n1)) < (bN.length:Int)) then
     ay (idx bN (bV (cZ + n1))) fun x1=>
     nS x1
    else
     some false) fun b1=>
  if b1 then
   qU bN cZ dA (bV (n1 + 1))
  else
   some n1
def zJ (bN:Str) (cZ:Int):Option Int:=
 qU bN cZ BIG 0
def wT (c1:UInt8):Option Bool:=
 some ((((decide (97≤(c1.toNat:Int))) && (decide ((c1.toNat:Int)≤122))) || ((decide (65≤(c1.toNat:Int))) && (decide ((c1.toNat:Int)≤90)))) || ((c1.toNat:Int) == 95))
def vk (bN:Str) (cZ:Int):Nat→Int→Option Int
 | 0,_=>none
 | dA + 1,n1=>
  ay (
    if decide ((bV (cZ + n1)) < (bN.length:Int)) then
     ay (idx bN (bV (cZ + n1))) fun x1=>
     ay (wT x1) fun x2=>
     if x2 then
      some true
     else
      ay (idx bN (bV (cZ + n1))) fun x3=>
      nS x3
    else
     some false) fun b1=>
  if b1 then
   vk bN cZ dA (bV (n1 + 1))
  else
   some n1
def BM (bN:Str) (cZ:Int):Option Int:=
 vk bN cZ BIG 0
def rV (s1:Str):Nat→Int→Int→Option (Int × Bool)
 | 0,_,_=>none
 | dA + 1,n1,i1=>
  if decide (i1 < (s1.length:Int)) then
   ay (idx s1 i1) fun x2=>
   ay (nS x2) fun x3=>
   if !x3 then
    some (0,false)
   else
    ay (idx s1 i1) fun x4=>
    rV s1 dA (bV ((bV ((bV (10 * n1)) + (x4.toNat:Int))) - 48)) (bV (i1 + 1))
  else
   some (n1,(decide (n1≤9007199254740992)))
def wZ (s1:Str):Option (Int × Bool):=
 ay (
   if (s1 == ([]:Str)) || (decide (16 < (s1.length:Int))) then
    some true
   else
    if decide (1 < (s1.length:Int)) then
     ay (idx s1 0) fun x1=>
     some ((x1.toNat:Int) == 48)
    else
     some false) fun b1=>
 if b1 then
  some (0,false)
 else
  rV s1 BIG 0 0
def zI (bN:Str) (cZ:Int):Option (av × Int × Int):=
 ay (zJ bN cZ) fun n1=>
 ay (BM bN cZ) fun x1=>
 ay (
   if decide (n1 < x1) then
    some true
   else
    if decide (1 < n1) then
     ay (idx bN cZ) fun x2=>
     some ((x2.toNat:Int) == 48)
    else
     some false) fun b1=>
 if b1 then
  some ((av.mk 0 ([]:Str) 0),0,5)
 else
  ay (sl bN cZ (bV (cZ + n1))) fun x3=>
  je (wZ x3) fun x4 ok1=>
  if !ok1 then
   some ((av.mk 0 ([]:Str) 0),0,2)
  else
   ay (sl bN cZ (bV (cZ + n1))) fun x5=>
   some ((av.mk 2 x5 0),n1,0)
def FH (c1:UInt8):Option Int:=
 ay (nS c1) fun x1=>
 if x1 then
  some (bV ((c1.toNat:Int) - 48))
 else
  if (decide (97≤(c1.toNat:Int))) && (decide ((c1.toNat:Int)≤102)) then
   some (bV ((c1.toNat:Int) - 87))
  else
   if (decide (65≤(c1.toNat:Int))) && (decide ((c1.toNat:Int)≤70)) then
    some (bV ((c1.toNat:Int) - 55))
   else
    some (-1)
def kN (bN:Str) (cZ:Int):Nat→Int→Int→Option (UInt8 × Int × Int)
 | 0,_,_=>none
 | dA + 1,n1,i1=>
  if decide (i1 < (bV (cZ + 4))) then
   if decide ((bN.length:Int)≤i1) then
    some (0,0,4)
   else
    ay (idx bN i1) fun x1=>
    ay (FH x1) fun x2=>
    if decide (x2 < 0) then
     some (0,0,5)
    else
     ay (idx bN i1) fun x3=>
     ay (FH x3) fun x4=>
     kN bN cZ dA (bV ((bV (16 * n1)) + x4)) (bV (i1 + 1))
  else
   some ((Ft.byteOf n1),4,0)
def xG (bN:Str) (cZ:Int):Option (UInt8 × Int × Int):=
 kN bN cZ BIG 0 (bV (cZ + 2))
def mY (bN:Str) (cZ:Int):Option (UInt8 × Int × Int):=
 ay (idx bN cZ) fun x1=>
 if decide ((x1.toNat:Int) < 32) then
  some (0,0,5)
 else
  ay (idx bN cZ) fun x2=>
  if (x2.toNat:Int) != 92 then
   ay (idx bN cZ) fun x3=>
   some (x3,1,0)
  else
   if decide ((bN.length:Int)≤(bV (cZ + 1))) then
    some (0,0,4)
   else
    ay (idx bN (bV (cZ + 1))) fun x4=>
    if (x4.toNat:Int) == 34 then
     ay (idx bN (bV (cZ + 1))) fun x5=>
     some (x5,2,0)
    else
     if (x4.toNat:Int) == 92 then
      ay (idx bN (bV (cZ + 1))) fun x6=>
      some (x6,2,0)
     else
      if (x4.toNat:Int) == 110 then
       some (10,2,0)
      else
       if (x4.toNat:Int) == 116 then
        some (9,2,0)
       else
        if (x4.toNat:Int) == 120 then
         xG bN cZ
        else
         some (0,0,5)
def vo (bN:Str) (cZ:Int):Nat→List UInt8→Int→Option (av × Int × Int)
 | 0,_,_=>none
 | dA + 1,b1,i1=>
  if decide (i1 < (bN.length:Int)) then
   ay (idx bN i1) fun x1=>
   if (x1.toNat:Int) == 34 then
    if decide (4096 < (b1.length:Int)) then
     some ((av.mk 0 ([]:Str) 0),0,3)
    else
     some ((av.mk 3 b1 0),(bV ((bV (i1 + 1)) - cZ)),0)
   else
    lQ (mY bN i1) fun c1 n1 e1=>
    if e1 != 0 then
     some ((av.mk 0 ([]:Str) 0),0,e1)
    else
     ay (app b1 ([c1]:List UInt8)) fun b2=>
     vo bN cZ dA b2 (bV (i1 + n1))
  else
   some ((av.mk 0 ([]:Str) 0),0,4)
def Eo (bN:Str) (cZ:Int):Option (av × Int × Int):=
 vo bN cZ BIG [] (bV (cZ + 1))
def gQ (bN:Str) (cZ:Int):Nat→Int→Option Int
 | 0,_=>none
 | Mw + 1,i2=>
  if decide (i2 < 19) then
   ay (idx bN cZ) fun x3=>
   ay (idx ([60,62,43,45,42,47,37,33,63,58,46,44,61,40,41,91,93,123,125]:Str) i2) fun x4=>
   if (x3.toNat:Int) == (x4.toNat:Int) then
    some 1
   else
    gQ bN cZ Mw (bV (i2 + 1))
  else
   some 0
def gu (bN:Str) (cZ:Int):Nat→Int→Option Int
 | 0,_=>none
 | dA + 1,i1=>
  if decide (i1 < 12) then
   ay (
     if decide ((bV (cZ + 2))≤(bN.length:Int)) then
      ay (sl bN cZ (bV (cZ + 2))) fun x1=>
      ay (sl ([124,124,38,38,61,61,33,61,60,61,62,61]:Str) i1 (bV (i1 + 2))) fun x2=>
      some (x1 == x2)
     else
      some false) fun b1=>
   if b1 then
    some 2
   else
    gu bN cZ dA (bV (i1 + 2))
  else
   gQ bN cZ BIG 0
def vO (bN:Str) (cZ:Int):Option Int:=
 gu bN cZ BIG 0
def BO (bN:Str) (cZ:Int):Option (av × Int × Int):=
 ay (idx bN cZ) fun x1=>
 ay (nS x1) fun x2=>
 if x2 then
  zI bN cZ
 else
  ay (idx bN cZ) fun x6=>
  if (x6.toNat:Int) == 34 then
   Eo bN cZ
  else
   ay (BM bN cZ) fun n1=>
   if decide (0 < n1) then
    if decide (64 < n1) then
     some ((av.mk 0 ([]:Str) 0),0,3)
    else
     ay (sl bN cZ (bV (cZ + n1))) fun JK=>
     some ((av.mk 1 JK 0),n1,0)
   else
    ay (vO bN cZ) fun n2=>
    if n2 == 0 then
     some ((av.mk 0 ([]:Str) 0),0,5)
    else
     ay (sl bN cZ (bV (cZ + n2))) fun Rs=>
     some ((av.mk 4 Rs 0),n2,0)
def qh (eY:Int) (t1:av):Option Int:=
 if (t1.kind == 4) && ((t1.text == ([40]:Str)) || (t1.text == ([91]:Str))) then
  some (bV (eY + 1))
 else
  if ((t1.kind == 4) && ((t1.text == ([41]:Str)) || (t1.text == ([93]:Str)))) && (decide (0 < eY)) then
   some (bV (eY - 1))
  else
   some eY
def kK (bN:Str):Nat→List av→Int→Int→Option (List av × Int × Int)
 | 0,_,_,_=>none
 | dA + 1,dF,eY,at2=>
  if decide (at2 < (bN.length:Int)) then
   ay (idx bN at2) fun x1=>
   if (x1.toNat:Int) != 10 then
    lQ (BO bN at2) fun x2 wO e1=>
    if e1 != 0 then
     some ([],at2,e1)
    else
     ay (
       if x2.kind != 5 then
        some true
       else
        if eY == 0 then
         if (dF.length:Int) == 0 then
          some true
         else
          ay (idx dF (bV ((dF.length:Int) - 1))) fun e2=>
          some (e2.kind != 5)
        else
         some false) fun b1=>
     if b1 then
      ay (app dF [(av.mk x2.kind x2.text at2)]) fun yM=>
      ay (qh eY (av.mk x2.kind x2.text at2)) fun L9=>
      ay (ou bN (bV (at2 + wO))) fun at3=>
      kK bN dA yM L9 at3
     else
      ay (qh eY (av.mk x2.kind x2.text at2)) fun YA=>
      ay (ou bN (bV (at2 + wO))) fun at4=>
      kK bN dA dF YA at4
   else
    ay (
      if (5:Int) != 5 then
       some true
      else
       if eY == 0 then
        if (dF.length:Int) == 0 then
         some true
        else
         ay (idx dF (bV ((dF.length:Int) - 1))) fun e3=>
         some (e3.kind != 5)
       else
        some false) fun b4=>
    if b4 then
     ay (app dF [(av.mk 5 ([]:Str) at2)]) fun Sk=>
     ay (qh eY (av.mk 5 ([]:Str) at2)) fun Yz=>
     ay (ou bN (bV (at2 + 1))) fun at5=>
     kK bN dA Sk Yz at5
    else
     ay (qh eY (av.mk 5 ([]:Str) at2)) fun Yy=>
     ay (ou bN (bV (at2 + 1))) fun at6=>
     kK bN dA dF Yy at6
  else
   some (dF,0,0)
def rU (bN:Str):Option (List av × Int × Int):=
 if decide (65536 < (bN.length:Int)) then
  some ([],0,3)
 else
  ay (ou bN 0) fun cZ=>
  kK bN BIG [] 0 cZ
def pz (iK:List av) (cZ:Int) (s1:Str):Option Bool:=
 ay (
   if decide (cZ < (iK.length:Int)) then
    ay (idx iK cZ) fun e1=>
    some (e1.kind == 4)
   else
    some false) fun b1=>
 if b1 then
  ay (idx iK cZ) fun e2=>
  some (e2.text == s1)
 else
  some false
def rR (v1:ak):Option ah:=
 some (ah.mk 1 ([]:Str) v1 [] [])
def xH (s1:Str):Nat→Int→Option Bool
 | 0,_=>none
 | dA + 1,i1=>
  if decide (i1 < (s1.length:Int)) then
   ay (idx s1 i1) fun x1=>
   ay (wT x1) fun x2=>
   ay (
     if !x2 then
      if i1 == 0 then
       some true
      else
       ay (idx s1 i1) fun x3=>
       ay (nS x3) fun x4=>
       some (!x4)
     else
      some false) fun b1=>
   if b1 then
    some false
   else
    xH s1 dA (bV (i1 + 1))
  else
   some ((decide (1≤(s1.length:Int))) && (decide ((s1.length:Int)≤64)))
def BP (s1:Str):Option Bool:=
 xH s1 BIG 0
def qR (s1:Str):Option Bool:=
 ay (BP s1) fun x1=>
 some (((x1 && (!(s1 == ([116,114,117,101]:Str)))) && (!(s1 == ([102,97,108,115,101]:Str)))) && (!(s1 == ([110,117,108,108]:Str))))
def Ht (t1:av):Option Bool:=
 ay (
   if t1.kind == 1 then
    BP t1.text
   else
    some false) fun b1=>
 some (b1 || ((t1.kind == 3) && (decide ((t1.text.length:Int)≤4096))))
def lq (iK:List av) (cZ:Int):Option Int:=
 if decide ((iK.length:Int)≤cZ) then
  some 4
 else
  some 5
def sK (op1:Str):Option Int:=
 if op1 == ([124,124]:Str) then
  some 2
 else
  if op1 == ([38,38]:Str) then
   some 3
  else
   if op1 == ([61,61]:Str) then
    some 4
   else
    if op1 == ([33,61]:Str) then
     some 4
    else
     if op1 == ([60]:Str) then
      some 4
     else
      if op1 == ([60,61]:Str) then
       some 4
      else
       if op1 == ([62]:Str) then
        some 4
       else
        if op1 == ([62,61]:Str) then
         some 4
        else
         if op1 == ([43]:Str) then
          some 5
         else
          if op1 == ([45]:Str) then
           some 5
          else
           if op1 == ([42]:Str) then
            some 6
           else
            if op1 == ([47]:Str) then
             some 6
            else
             if op1 == ([37]:Str) then
              some 6
             else
              some 0
def uJ (aY:List av→Int→Option (ah × Int × Int)) (bG:List av→Int→Int→Option (ah × Int × Int)) (dG:List av→Int→Option (ah × Int × Int)) (dI:List av→Int→Option (ah × Int × Int)) (dR:List av→Int→Option (ah × Int × Int)) (dQ:List av→Int→Option (ah × Int × Int)) (dN:List av→Int→Str→Bool→Option (List ah × List Str × Int × Int)) (bW:List av→Int→Option (ah × Int × Int)) (iK:List av) (cZ:Int):Option (ah × Int × Int):=
 lQ (bG iK cZ 2) fun x1 at2 e1=>
 ay (
   if e1 != 0 then
    some true
   else
    ay (pz iK at2 ([63]:Str)) fun x2=>
    some (!x2)) fun b1=>
 if b1 then
  some (x1,at2,e1)
 else
  lQ (aY iK (bV (at2 + 1))) fun x3 at3 e2=>
  if e2 != 0 then
   some ((ah.mk 0 ([]:Str) (ak.mk 0 false 0 ([]:Str) [] []) [] []),at3,e2)
  else
   ay (pz iK at3 ([58]:Str)) fun x4=>
   if !x4 then
    ay (lq iK at3) fun x5=>
    some ((ah.mk 0 ([]:Str) (ak.mk 0 false 0 ([]:Str) [] []) [] []),at3,x5)
   else
    lQ (aY iK (bV (at3 + 1))) fun x6 at4 e3=>
    some ((ah.mk 8 ([]:Str) (ak.mk 0 false 0 ([]:Str) [] []) [x1,x3,x6] []),at4,e3)
def jK (bG:List av→Int→Int→Option (ah × Int × Int)) (iK:List av) (lK:Int):Nat→Int→Int→Int→ah→Option (ah × Int × Int)
 | 0,_,_,_,_=>none
 | dA + 1,at3,e2,n1,Gb=>
  ay (
    if (e2 == 0) && (decide (at3 < (iK.length:Int))) then
     ay (idx iK at3) fun e3=>
     some (e3.kind == 4)
    else
     some false) fun b1=>
  ay (
    if b1 then
     ay (idx iK at3) fun e4=>
     ay (sK e4.text) fun x5=>
     some (x5 == lK)
    else
     some false) fun b2=>
  if b2 && ((n1 == 0) || (lK != 4)) then
   lQ (bG iK (bV (at3 + 1)) (bV (lK + 1))) fun x6 iZ f1=>
   ay (idx iK at3) fun e5=>
   jK bG iK lK dA iZ f1 (bV (n1 + 1)) (ah.mk 7 e5.text (ak.mk 0 false 0 ([]:Str) [] []) [Gb,x6] [])
  else
   some (Gb,at3,e2)
def qG (aY:List av→Int→Option (ah × Int × Int)) (bG:List av→Int→Int→Option (ah × Int × Int)) (dG:List av→Int→Option (ah × Int × Int)) (dI:List av→Int→Option (ah × Int × Int)) (dR:List av→Int→Option (ah × Int × Int)) (dQ:List av→Int→Option (ah × Int × Int)) (dN:List av→Int→Str→Bool→Option (List ah × List Str × Int × Int)) (bW:List av→Int→Option (ah × Int × Int)) (iK:List av) (cZ:Int) (lK:Int):Option (ah × Int × Int):=
 if lK == 7 then
  dG iK cZ
 else
  lQ (bG iK cZ (bV (lK + 1))) fun x4 at2 e1=>
  jK bG iK lK BIG at2 e1 0 x4
def Aj (aY:List av→Int→Option (ah × Int × Int)) (bG:List av→Int→Int→Option (ah × Int × Int)) (dG:List av→Int→Option (ah × Int × Int)) (dI:List av→Int→Option (ah × Int × Int)) (dR:List av→Int→Option (ah × Int × Int)) (dQ:List av→Int→Option (ah × Int × Int)) (dN:List av→Int→Str→Bool→Option (List ah × List Str × Int × Int)) (bW:List av→Int→Option (ah × Int × Int)) (iK:List av) (cZ:Int):Option (ah × Int × Int):=
 ay (pz iK cZ ([33]:Str)) fun x1=>
 ay (
   if !x1 then
    ay (pz iK cZ ([45]:Str)) fun x2=>
    some (!x2)
   else
    some false) fun b1=>
 if b1 then
  dI iK cZ
 else
  lQ (dG iK (bV (cZ + 1))) fun x6 iZ e1=>
  ay (idx iK cZ) fun e2=>
  some ((ah.mk 6 e2.text (ak.mk 0 false 0 ([]:Str) [] []) [x6] []),iZ,e1)
def mR (aY:List av→Int→Option (ah × Int × Int)) (iK:List av) (e1:Int):Nat→Int→ah→Option (ah × Int × Int)
 | 0,_,_=>none
 | dA + 1,at3,x2=>
  ay (
    if e1 == 0 then
     ay (pz iK at3 ([46]:Str)) fun x3=>
     if x3 then
      some true
     else
      pz iK at3 ([91]:Str)
    else
     some false) fun b1=>
  if b1 then
   ay (pz iK at3 ([46]:Str)) fun x5=>
   if x5 then
    ay (
      if decide ((iK.length:Int)≤(bV (at3 + 1))) then
       some true
      else
       ay (idx iK (bV (at3 + 1))) fun e2=>
       some (e2.kind != 1)) fun b3=>
    ay (
      if b3 then
       some true
      else
       ay (idx iK (bV (at3 + 1))) fun e3=>
       ay (qR e3.text) fun x6=>
       some (!x6)) fun b4=>
    if b4 then
     ay (lq iK (bV (at3 + 1))) fun x7=>
     some ((ah.mk 0 ([]:Str) (ak.mk 0 false 0 ([]:Str) [] []) [] []),(bV (at3 + 1)),x7)
    else
     ay (idx iK (bV (at3 + 1))) fun e4=>
     mR aY iK e1 dA (bV ((bV (at3 + 1)) + 1)) (ah.mk 3 e4.text (ak.mk 0 false 0 ([]:Str) [] []) [x2] [])
   else
    lQ (aY iK (bV (at3 + 1))) fun x8 iZ f1=>
    if f1 != 0 then
     some ((ah.mk 0 ([]:Str) (ak.mk 0 false 0 ([]:Str) [] []) [] []),iZ,f1)
    else
     ay (pz iK iZ ([93]:Str)) fun x9=>
     if !x9 then
      ay (lq iK iZ) fun JK=>
      some ((ah.mk 0 ([]:Str) (ak.mk 0 false 0 ([]:Str) [] []) [] []),iZ,JK)
     else
      mR aY iK e1 dA (bV (iZ + 1)) (ah.mk 4 ([]:Str) (ak.mk 0 false 0 ([]:Str) [] []) [x2,x8] [])
  else
   some (x2,at3,e1)
def Al (aY:List av→Int→Option (ah × Int × Int)) (bG:List av→Int→Int→Option (ah × Int × Int)) (dG:List av→Int→Option (ah × Int × Int)) (dI:List av→Int→Option (ah × Int × Int)) (dR:List av→Int→Option (ah × Int × Int)) (dQ:List av→Int→Option (ah × Int × Int)) (dN:List av→Int→Str→Bool→Option (List ah × List Str × Int × Int)) (bW:List av→Int→Option (ah × Int × Int)) (iK:List av) (cZ:Int):Option (ah × Int × Int):=
 lQ (dR iK cZ) fun x1 at2 e1=>
 mR aY iK e1 BIG at2 x1
def Cy (aY:List av→Int→Option (ah × Int × Int)) (bG:List av→Int→Int→Option (ah × Int × Int)) (dG:List av→Int→Option (ah × Int × Int)) (dI:List av→Int→Option (ah × Int × Int)) (dR:List av→Int→Option (ah × Int × Int)) (dQ:List av→Int→Option (ah × Int × Int)) (dN:List av→Int→Str→Bool→Option (List ah × List Str × Int × Int)) (bW:List av→Int→Option (ah × Int × Int)) (iK:List av) (cZ:Int):Option (ah × Int × Int):=
 if decide ((iK.length:Int)≤cZ) then
  some ((ah.mk 0 ([]:Str) (ak.mk 0 false 0 ([]:Str) [] []) [] []),cZ,4)
 else
  ay (idx iK cZ) fun e1=>
  if e1.kind == 2 then
   je (wZ e1.text) fun n1 ok1=>
   if ok1 then
    ay (rR (ak.mk 2 false n1 ([]:Str) [] [])) fun x1=>
    some (x1,(bV (cZ + 1)),0)
   else
    some ((ah.mk 0 ([]:Str) (ak.mk 0 false 0 ([]:Str) [] []) [] []),cZ,5)
  else
   if e1.kind == 3 then
    if decide ((e1.text.length:Int)≤4096) then
     ay (rR (ak.mk 3 false 0 e1.text [] [])) fun x2=>
     some (x2,(bV (cZ + 1)),0)
    else
     some ((ah.mk 0 ([]:Str) (ak.mk 0 false 0 ([]:Str) [] []) [] []),cZ,5)
   else
    if e1.kind == 1 then
     dQ iK cZ
    else
     if e1.kind == 4 then
      bW iK cZ
     else
      some ((ah.mk 0 ([]:Str) (ak.mk 0 false 0 ([]:Str) [] []) [] []),cZ,5)
def zF (aY:List av→Int→Option (ah × Int × Int)) (bG:List av→Int→Int→Option (ah × Int × Int)) (dG:List av→Int→Option (ah × Int × Int)) (dI:List av→Int→Option (ah × Int × Int)) (dR:List av→Int→Option (ah × Int × Int)) (dQ:List av→Int→Option (ah × Int × Int)) (dN:List av→Int→Str→Bool→Option (List ah × List Str × Int × Int)) (bW:List av→Int→Option (ah × Int × Int)) (iK:List av) (cZ:Int):Option (ah × Int × Int):=
 ay (idx iK cZ) fun e1=>
 if e1.text == ([110,117,108,108]:Str) then
  ay (rR (ak.mk 0 false 0 ([]:Str) [] [])) fun x1=>
  some (x1,(bV (cZ + 1)),0)
 else
  if e1.text == ([116,114,117,101]:Str) then
   ay (rR (ak.mk 1 (e1.text == ([116,114,117,101]:Str)) 0 ([]:Str) [] [])) fun x2=>
   some (x2,(bV (cZ + 1)),0)
  else
   if e1.text == ([102,97,108,115,101]:Str) then
    ay (rR (ak.mk 1 (e1.text == ([116,114,117,101]:Str)) 0 ([]:Str) [] [])) fun x3=>
    some (x3,(bV (cZ + 1)),0)
   else
    ay (qR e1.text) fun x4=>
    if !x4 then
     some ((ah.mk 0 ([]:Str) (ak.mk 0 false 0 ([]:Str) [] []) [] []),cZ,5)
    else
     ay (pz iK (bV (cZ + 1)) ([40]:Str)) fun x5=>
     if !x5 then
      some ((ah.mk 2 e1.text (ak.mk 0 false 0 ([]:Str) [] []) [] []),(bV (cZ + 1)),0)
     else
      Iu (dN iK (bV (cZ + 2)) ([41]:Str) false) fun l1 x6 iZ e2=>
      some ((ah.mk 5 e1.text (ak.mk 0 false 0 ([]:Str) [] []) l1 []),iZ,e2)
def n_ (aY:List av→Int→Option (ah × Int × Int)) (iK:List av) (qM:Str) (uD:Bool):Nat→Int→List ah→List Str→Option (List ah × List Str × Int × Int)
 | 0,_,_,_=>none
 | dA + 1,at2,l1,mo=>
  if uD then
   ay (
     if decide ((iK.length:Int)≤at2) then
      some true
     else
      ay (idx iK at2) fun e1=>
      ay (Ht e1) fun x2=>
      some (!x2)) fun b1=>
   if b1 then
    ay (lq iK at2) fun x3=>
    some ([],[],at2,x3)
   else
    ay (idx iK at2) fun e2=>
    ay (app mo ([e2.text]:List Str)) fun Vz=>
    ay (pz iK (bV (at2 + 1)) ([58]:Str)) fun x4=>
    if !x4 then
     ay (lq iK (bV (at2 + 1))) fun x5=>
     some ([],[],(bV (at2 + 1)),x5)
    else
     lQ (aY iK (bV ((bV (at2 + 1)) + 1))) fun x6 iZ e3=>
     if e3 != 0 then
      some ([],[],iZ,e3)
     else
      ay (app l1 [x6]) fun l2=>
      ay (pz iK iZ qM) fun x7=>
      if x7 then
       some (l2,Vz,(bV (iZ + 1)),0)
      else
       ay (pz iK iZ ([44]:Str)) fun x8=>
       if !x8 then
        ay (lq iK iZ) fun x9=>
        some ([],[],iZ,x9)
       else
        n_ aY iK qM uD dA (bV (iZ + 1)) l2 Vz
  else
   lQ (aY iK at2) fun JK yC e4=>
   if e4 != 0 then
    some ([],[],yC,e4)
   else
    ay (app l1 [JK]) fun l3=>
    ay (pz iK yC qM) fun Rs=>
    if Rs then
     some (l3,mo,(bV (yC + 1)),0)
    else
     ay (pz iK yC ([44]:Str)) fun Xz=>
     if !Xz then
      ay (lq iK yC) fun ZH=>
      some ([],[],yC,ZH)
     else
      n_ aY iK qM uD dA (bV (yC + 1)) l3 mo
def zG (aY:List av→Int→Option (ah × Int × Int)) (bG:List av→Int→Int→Option (ah × Int × Int)) (dG:List av→Int→Option (ah × Int × Int)) (dI:List av→Int→Option (ah × Int × Int)) (dR:List av→Int→Option (ah × Int × Int)) (dQ:List av→Int→Option (ah × Int × Int)) (dN:List av→Int→Str→Bool→Option (List ah × List Str × Int × Int)) (bW:List av→Int→Option (ah × Int × Int)) (iK:List av) (cZ:Int) (qM:Str) (uD:Bool):Option (List ah × List Str × Int × Int):=
 ay (pz iK cZ qM) fun x1=>
 if x1 then
  some ([],[],(bV (cZ + 1)),0)
 else
  n_ aY iK qM uD BIG cZ [] []
def vK (aY:List av→Int→Option (ah × Int × Int)) (bG:List av→Int→Int→Option (ah × Int × Int)) (dG:List av→Int→Option (ah × Int × Int)) (dI:List av→Int→Option (ah × Int × Int)) (dR:List av→Int→Option (ah × Int × Int)) (dQ:List av→Int→Option (ah × Int × Int)) (dN:List av→Int→Str→Bool→Option (List ah × List Str × Int × Int)) (bW:List av→Int→Option (ah × Int × Int)) (iK:List av) (cZ:Int):Option (ah × Int × Int):=
 ay (idx iK cZ) fun e1=>
 if e1.text == ([40]:Str) then
  lQ (aY iK (bV (cZ + 1))) fun x1 iZ e2=>
  ay (
    if e2 == 0 then
     ay (pz iK iZ ([41]:Str)) fun x2=>
     some (!x2)
    else
     some false) fun b1=>
  if b1 then
   ay (lq iK iZ) fun e3=>
   if e3 != 0 then
    some ((ah.mk 0 ([]:Str) (ak.mk 0 false 0 ([]:Str) [] []) [] []),iZ,e3)
   else
    some (x1,(bV (iZ + 1)),0)
  else
   if e2 != 0 then
    some ((ah.mk 0 ([]:Str) (ak.mk 0 false 0 ([]:Str) [] []) [] []),iZ,e2)
   else
    some (x1,(bV (iZ + 1)),0)
 else
  if e1.text == ([91]:Str) then
   Iu (dN iK (bV (cZ + 1)) ([93]:Str) false) fun l1 x3 yC e4=>
   some ((ah.mk 9 ([]:Str) (ak.mk 0 false 0 ([]:Str) [] []) l1 []),yC,e4)
  else
   if e1.text == ([123]:Str) then
    Iu (dN iK (bV (cZ + 1)) ([125]:Str) true) fun l2 mo aa_ e5=>
    some ((ah.mk 10 ([]:Str) (ak.mk 0 false 0 ([]:Str) [] []) l2 mo),aa_,e5)
   else
    some ((ah.mk 0 ([]:Str) (ak.mk 0 false 0 ([]:Str) [] []) [] []),cZ,5)
mutual
def b_ :Nat→List av→Int→Option (ah × Int × Int)
 | 0,_,_=>none
 | k + 1,fZ,gq=>uJ (b_ k) (dn k) (fC k) (fK k) (gV k) (iw k) (fA k) (eX k) fZ gq
def dn :Nat→List av→Int→Int→Option (ah × Int × Int)
 | 0,_,_,_=>none
 | k + 1,fZ,gq,mF=>qG (b_ k) (dn k) (fC k) (fK k) (gV k) (iw k) (fA k) (eX k) fZ gq mF
def fC :Nat→List av→Int→Option (ah × Int × Int)
 | 0,_,_=>none
 | k + 1,fZ,gq=>Aj (b_ k) (dn k) (fC k) (fK k) (gV k) (iw k) (fA k) (eX k) fZ gq
def fK :Nat→List av→Int→Option (ah × Int × Int)
 | 0,_,_=>none
 | k + 1,fZ,gq=>Al (b_ k) (dn k) (fC k) (fK k) (gV k) (iw k) (fA k) (eX k) fZ gq
def gV :Nat→List av→Int→Option (ah × Int × Int)
 | 0,_,_=>none
 | k + 1,fZ,gq=>Cy (b_ k) (dn k) (fC k) (fK k) (gV k) (iw k) (fA k) (eX k) fZ gq
def iw :Nat→List av→Int→Option (ah × Int × Int)
 | 0,_,_=>none
 | k + 1,fZ,gq=>zF (b_ k) (dn k) (fC k) (fK k) (gV k) (iw k) (fA k) (eX k) fZ gq
def fA :Nat→List av→Int→Str→Bool→Option (List ah × List Str × Int × Int)
 | 0,_,_,_,_=>none
 | k + 1,fZ,gq,nR,nQ=>zG (b_ k) (dn k) (fC k) (fK k) (gV k) (iw k) (fA k) (eX k) fZ gq nR nQ
def eX :Nat→List av→Int→Option (ah × Int × Int)
 | 0,_,_=>none
 | k + 1,fZ,gq=>vK (b_ k) (dn k) (fC k) (fK k) (gV k) (iw k) (fA k) (eX k) fZ gq
end
def Bh (fZ:List av) (gq:Int):Option (ah × Int × Int):=b_ BIG fZ gq
def N9 (fZ:List av) (gq:Int) (mF:Int):Option (ah × Int × Int):=dn BIG fZ gq mF
def Wu (fZ:List av) (gq:Int):Option (ah × Int × Int):=fC BIG fZ gq
def Wv (fZ:List av) (gq:Int):Option (ah × Int × Int):=fK BIG fZ gq
def Yi (fZ:List av) (gq:Int):Option (ah × Int × Int):=gV BIG fZ gq
def Yg (fZ:List av) (gq:Int):Option (ah × Int × Int):=iw BIG fZ gq
def Yh (fZ:List av) (gq:Int) (nR:Str) (nQ:Bool):Option (List ah × List Str × Int × Int):=fA BIG fZ gq nR nQ
def Qh (fZ:List av) (gq:Int):Option (ah × Int × Int):=eX BIG fZ gq
def vN (lY:ah→Option Int) (e1:ah):Nat→Int→Int→Option Int
 | 0,_,_=>none
 | dA + 1,n1,i1=>
  if decide (i1 < (e1.args.length:Int)) then
   ay (idx e1.args i1) fun e2=>
   ay (lY e2) fun x1=>
   vN lY e1 dA (bV (n1 + x1)) (bV (i1 + 1))
  else
   some n1
def Am (lY:ah→Option Int) (e1:ah):Option Int:=
 vN lY e1 BIG 1 0
def oo :Nat→ah→Option Int
 | 0,_=>none
 | k + 1,lg=>Am (oo k) lg
def FE (lg:ah):Option Int:=oo BIG lg
def BJ (e1:ah):Option Bool:=
 if e1.kind == 1 then
  some ((e1.args.length:Int) == 0)
 else
  if e1.kind == 2 then
   some ((e1.args.length:Int) == 0)
  else
   if e1.kind == 3 then
    some ((e1.args.length:Int) == 1)
   else
    if e1.kind == 6 then
     some ((e1.args.length:Int) == 1)
    else
     if e1.kind == 4 then
      some ((e1.args.length:Int) == 2)
     else
      if e1.kind == 7 then
       some ((e1.args.length:Int) == 2)
      else
       if e1.kind == 8 then
        some ((e1.args.length:Int) == 3)
       else
        some (((e1.kind == 5) || (e1.kind == 9)) || (e1.kind == 10))
def BI (e1:ah):Option Bool:=
 if e1.kind == 2 then
  qR e1.name
 else
  if e1.kind == 3 then
   qR e1.name
  else
   if e1.kind == 5 then
    qR e1.name
   else
    if e1.kind == 6 then
     some ((e1.name == ([33]:Str)) || (e1.name == ([45]:Str)))
    else
     if e1.kind == 7 then
      ay (sK e1.name) fun x4=>
      some (decide (0 < x4))
     else
      some (e1.name == ([]:Str))
def xI (jW:ak→ak→Option Bool) (a1:ak) (b1:ak):Nat→Int→Option Bool
 | 0,_=>none
 | Mw + 1,i2=>
  if decide (i2 < (a1.bT.length:Int)) then
   ay (idx a1.bT i2) fun e3=>
   ay (idx b1.bT i2) fun e4=>
   ay (jW e3 e4) fun x1=>
   if !x1 then
    some false
   else
    xI jW a1 b1 Mw (bV (i2 + 1))
  else
   some true
def xJ (jW:ak→ak→Option Bool) (a1:ak) (b1:ak):Nat→Int→Option Bool
 | 0,_=>none
 | dA + 1,i1=>
  if decide (i1 < (a1.keys.length:Int)) then
   ay (idx a1.keys i1) fun e1=>
   ay (idx b1.keys i1) fun e2=>
   if !(e1 == e2) then
    some false
   else
    xJ jW a1 b1 dA (bV (i1 + 1))
  else
   xI jW a1 b1 BIG 0
def Cz (jW:ak→ak→Option Bool) (a1:ak) (b1:ak):Option Bool:=
 if (((((a1.kind != b1.kind) || (!(a1.fU == b1.fU))) || (a1.kF != b1.kF)) || (!(a1.kC == b1.kC))) || ((a1.bT.length:Int) != (b1.bT.length:Int))) || ((a1.keys.length:Int) != (b1.keys.length:Int)) then
  some false
 else
  xJ jW a1 b1 BIG 0
def wU :Nat→ak→ak→Option Bool
 | 0,_,_=>none
 | k + 1,tJ,tH=>Cz (wU k) tJ tH
def Hw (tJ:ak) (tH:ak):Option Bool:=wU BIG tJ tH
def qQ (e1:ah):Nat→Int→Option Bool
 | 0,_=>none
 | dA + 1,i1=>
  if decide (i1 < (e1.keys.length:Int)) then
   ay (idx e1.keys i1) fun e2=>
   ay (
     if decide ((e2.length:Int) < 1) then
      some true
     else
      ay (idx e1.keys i1) fun e3=>
      some (decide (64 < (e3.length:Int)))) fun b4=>
   if b4 then
    some false
   else
    qQ e1 dA (bV (i1 + 1))
  else
   some ((e1.keys.length:Int) == (e1.args.length:Int))
def zH (e1:ah):Option Bool:=
 ay (BJ e1) fun x1=>
 ay (
   if !x1 then
    some true
   else
    ay (BI e1) fun x2=>
    some (!x2)) fun b1=>
 ay (
   if b1 then
    some true
   else
    if e1.kind != 1 then
     ay (Hw e1.value (ak.mk 0 false 0 ([]:Str) [] [])) fun x3=>
     some (!x3)
    else
     some false) fun b2=>
 if b2 then
  some false
 else
  if e1.kind != 10 then
   some ((e1.keys.length:Int) == 0)
  else
   qQ e1 BIG 0
def BQ (v1:ak):Option Bool:=
 if ((v1.fU && (v1.kind != 1)) || ((v1.kF != 0) && (v1.kind != 2))) || ((!(v1.kC == ([]:Str))) && (v1.kind != 3)) then
  some false
 else
  if ((decide (0 < (v1.bT.length:Int))) && (v1.kind != 4)) && (v1.kind != 5) then
   some false
  else
   some (((v1.keys.length:Int) == 0) || (v1.kind == 5))
def Hu (s1:Str):Option Bool:=
 some ((decide (1≤(s1.length:Int))) && (decide ((s1.length:Int)≤64)))
def sQ (Vy:Bool) (Ie:Bool):Option Int:=
 if Vy then
  some (-1)
 else
  if Ie then
   some 1
  else
   some 0
def zh (c1:UInt8):Option Bool:=
 some ((decide (48≤(c1.toNat:Int))) && (decide ((c1.toNat:Int)≤57)))
def zK (s1:Str):Nat→Int→Option Int
 | 0,_=>none
 | dA + 1,at2=>
  ay (
    if decide (at2 < (s1.length:Int)) then
     ay (idx s1 at2) fun x1=>
     zh x1
    else
     some false) fun b1=>
  if b1 then
   zK s1 dA (bV (at2 + 1))
  else
   some at2
def Hy (s1:Str) (cZ:Int):Option Int:=
 zK s1 BIG cZ
def sO (s1:Str):Nat→Int→Option Str
 | 0,_=>none
 | dA + 1,i1=>
  ay (
    if decide (i1 < (s1.length:Int)) then
     ay (idx s1 i1) fun x1=>
     some ((x1.toNat:Int) == 48)
    else
     some false) fun b1=>
  if b1 then
   sO s1 dA (bV (i1 + 1))
  else
   sl s1 i1 (s1.length:Int)
def ze (s1:Str):Option Str:=
 sO s1 BIG 0
def Ep (a1:Str) (b1:Str):Option Int:=
 ay (ze a1) fun x1=>
 ay (ze b1) fun y1=>
 if (x1.length:Int) != (y1.length:Int) then
  sQ (decide ((x1.length:Int) < (y1.length:Int))) (decide ((y1.length:Int) < (x1.length:Int)))
 else
  if !(x1 == y1) then
   sQ (Go.Op.bytesLess x1 y1) (!(Go.Op.bytesLess x1 y1 || x1 == y1))
  else
   sQ (decide ((a1.length:Int) < (b1.length:Int))) (decide ((b1.length:Int) < (a1.length:Int)))
def l8 (a1:Str) (b1:Str):Nat→Int→Int→Option Int
 | 0,_,_=>none
 | dA + 1,i1,wO=>
  if (decide (i1 < (a1.length:Int))) && (decide (wO < (b1.length:Int))) then
   ay (idx a1 i1) fun x1=>
   ay (idx b1 wO) fun x2=>
   ay (idx a1 i1) fun x3=>
   ay (idx b1 wO) fun x4=>
   ay (sQ (decide ((x1.toNat:Int) < (x2.toNat:Int))) (decide ((x4.toNat:Int) < (x3.toNat:Int)))) fun c1=>
   ay (idx a1 i1) fun x5=>
   ay (zh x5) fun x6=>
   ay (
     if x6 then
      ay (idx b1 wO) fun x7=>
      zh x7
     else
      some false) fun b2=>
   if b2 then
    ay (Hy a1 i1) fun m1=>
    ay (Hy b1 wO) fun n1=>
    ay (sl a1 i1 m1) fun x9=>
    ay (sl b1 wO n1) fun JK=>
    ay (Ep x9 JK) fun c2=>
    if c2 != 0 then
     some c2
    else
     l8 a1 b1 dA m1 n1
   else
    if c1 != 0 then
     some c1
    else
     l8 a1 b1 dA (bV (i1 + 1)) (bV (wO + 1))
  else
   sQ (decide (wO < (b1.length:Int))) (decide (i1 < (a1.length:Int)))
def oz (a1:Str) (b1:Str):Option Int:=
 l8 a1 b1 BIG 0 0
def nu (v1:ak):Nat→Int→Option Bool
 | 0,_=>none
 | dA + 1,i1=>
  if decide (i1 < (v1.keys.length:Int)) then
   ay (idx v1.keys i1) fun e1=>
   ay (Hu e1) fun x1=>
   ay (
     if !x1 then
      some true
     else
      if decide (0 < i1) then
       ay (idx v1.keys (bV (i1 - 1))) fun e2=>
       ay (idx v1.keys i1) fun e3=>
       ay (oz e2 e3) fun x2=>
       some (decide (0≤x2))
      else
       some false) fun b1=>
   if b1 then
    some false
   else
    nu v1 dA (bV (i1 + 1))
  else
   some ((v1.keys.length:Int) == (v1.bT.length:Int))
def um (v1:ak):Option Bool:=
 nu v1 BIG 0
def vP (lZ:ak→Int→Option Int) (v1:ak) (cB:Int):Nat→Int→Option Int
 | 0,_=>none
 | dA + 1,i1=>
  if decide (i1 < (v1.bT.length:Int)) then
   ay (idx v1.bT i1) fun e1=>
   ay (lZ e1 (bV (cB + 1))) fun e2=>
   if e2 != 0 then
    some e2
   else
    vP lZ v1 cB dA (bV (i1 + 1))
  else
   some 0
def Aq (lZ:ak→Int→Option Int) (v1:ak) (cB:Int):Option Int:=
 if decide (16 < cB) then
  some 13
 else
  ay (
    if (decide (v1.kind < 0)) || (decide (5 < v1.kind)) then
     some true
    else
     ay (BQ v1) fun x1=>
     some (!x1)) fun b1=>
  if b1 then
   some 1
  else
   if (decide (v1.kF < (-9007199254740992))) || (decide (9007199254740992 < v1.kF)) then
    some 2
   else
    if ((decide (4096 < (v1.kC.length:Int))) || (decide (1024 < (v1.bT.length:Int)))) || (decide (1024 < (v1.keys.length:Int))) then
     some 3
    else
     ay (
       if v1.kind == 5 then
        ay (um v1) fun x2=>
        some (!x2)
       else
        some false) fun b2=>
     if b2 then
      some 1
     else
      if ((decide (4≤v1.kind)) && ((v1.bT.length:Int) == 0)) && (cB == 16) then
       some 13
      else
       vP lZ v1 cB BIG 0
def ow :Nat→ak→Int→Option Int
 | 0,_,_=>none
 | k + 1,yc,fM=>Aq (ow k) yc fM
def I7 (yc:ak) (fM:Int):Option Int:=ow BIG yc fM
def BU (v1:ak):Option Int:=
 I7 v1 1
def sJ (mo:List Str) (i1:Int) (Dv:Int→Option Bool):Nat→Int→Option Bool
 | 0,_=>none
 | Mw + 1,wO=>
  if decide (wO < i1) then
   ay (idx mo i1) fun e1=>
   ay (idx mo wO) fun e2=>
   if e1 == e2 then
    some true
   else
    sJ mo i1 Dv Mw (bV (wO + 1))
  else
   Dv (bV (i1 + 1))
def nZ (mo:List Str):Nat→Int→Option Bool
 | 0,_=>none
 | dA + 1,i1=>
  if decide (i1 < (mo.length:Int)) then
   sJ mo i1 (nZ mo dA) BIG 0
  else
   some false
def BH (mo:List Str):Option Bool:=
 nZ mo BIG 0
def vL (lX:ah→Int→Option Int) (e1:ah) (cB:Int):Nat→Int→Option Int
 | 0,_=>none
 | dA + 1,i1=>
  if decide (i1 < (e1.args.length:Int)) then
   ay (idx e1.args i1) fun e2=>
   ay (lX e2 (bV (cB + 1))) fun f2=>
   if f2 != 0 then
    some f2
   else
    vL lX e1 cB dA (bV (i1 + 1))
  else
   some 0
def Ak (lX:ah→Int→Option Int) (e1:ah) (cB:Int):Option Int:=
 if decide (16 < cB) then
  some 13
 else
  ay (zH e1) fun x1=>
  if !x1 then
   some 1
  else
   ay (BU e1.value) fun f1=>
   if (e1.kind == 1) && (f1 != 0) then
    some f1
   else
    if decide (1024 < (e1.args.length:Int)) then
     some 3
    else
     ay (BH e1.keys) fun x2=>
     if x2 then
      some 7
     else
      vL lX e1 cB BIG 0
def oh :Nat→ah→Int→Option Int
 | 0,_,_=>none
 | k + 1,lg,fM=>Ak (oh k) lg fM
def I5 (lg:ah) (fM:Int):Option Int:=oh BIG lg fM
def BK (e1:ah):Option Int:=
 ay (FE e1) fun x1=>
 if decide (4096 < x1) then
  some 15
 else
  I5 e1 1
def Em (iK:List av):Option (ah × Int × Int):=
 lQ (Bh iK 0) fun x1 cZ e1=>
 if e1 != 0 then
  some ((ah.mk 0 ([]:Str) (ak.mk 0 false 0 ([]:Str) [] []) [] []),cZ,e1)
 else
  ay (BK x1) fun f1=>
  if f1 != 0 then
   some ((ah.mk 0 ([]:Str) (ak.mk 0 false 0 ([]:Str) [] []) [] []),0,f1)
  else
   some (x1,cZ,0)
def BL (bN:Str):Option (ah × Int × Int):=
 lQ (rU bN) fun iK cZ e1=>
 if e1 != 0 then
  some ((ah.mk 0 ([]:Str) (ak.mk 0 false 0 ([]:Str) [] []) [] []),cZ,e1)
 else
  lQ (Em iK) fun x1 n1 e2=>
  if (e2 == 0) && (n1 == (iK.length:Int)) then
   some (x1,0,0)
  else
   if e2 == 0 then
    if decide (n1 < (iK.length:Int)) then
     ay (idx iK n1) fun e3=>
     some ((ah.mk 0 ([]:Str) (ak.mk 0 false 0 ([]:Str) [] []) [] []),e3.at_,5)
    else
     some ((ah.mk 0 ([]:Str) (ak.mk 0 false 0 ([]:Str) [] []) [] []),(bN.length:Int),5)
   else
    if decide (n1 < (iK.length:Int)) then
     ay (idx iK n1) fun e4=>
     some ((ah.mk 0 ([]:Str) (ak.mk 0 false 0 ([]:Str) [] []) [] []),e4.at_,e2)
    else
     some ((ah.mk 0 ([]:Str) (ak.mk 0 false 0 ([]:Str) [] []) [] []),(bN.length:Int),e2)
def mQ (s1:Str):Nat→List aM→Int→Option (List aM × Int × Int)
 | 0,_,_=>none
 | dA + 1,l1,cZ=>
  if decide (cZ < (s1.length:Int)) then
   ay (idx s1 cZ) fun x1=>
   ay (
     if ((x1.toNat:Int) != 36) || (decide ((s1.length:Int)≤(bV (cZ + 1)))) then
      some true
     else
      ay (idx s1 (bV (cZ + 1))) fun x2=>
      if (x2.toNat:Int) != 36 then
       ay (idx s1 (bV (cZ + 1))) fun x3=>
       some ((x3.toNat:Int) != 123)
      else
       some false) fun b1=>
   if b1 then
    ay (idx s1 cZ) fun c1=>
    ay (zD l1 c1) fun l2=>
    mQ s1 dA l2 (bV (cZ + 1))
   else
    ay (idx s1 (bV (cZ + 1))) fun x4=>
    if (x4.toNat:Int) == 36 then
     ay (zD l1 36) fun l2=>
     mQ s1 dA l2 (bV (cZ + 2))
    else
     ay (Ai s1 (bV (cZ + 2))) fun qx=>
     if decide (qx < 0) then
      some ([],cZ,4)
     else
      ay (sl s1 (bV (cZ + 2)) qx) fun x5=>
      lQ (BL x5) fun x6 wO e1=>
      if e1 != 0 then
       some ([],(bV ((bV (cZ + 2)) + wO)),e1)
      else
       ay (app l1 [(aM.mk ([]:Str) true x6)]) fun l2=>
       mQ s1 dA l2 (bV (qx + 1))
  else
   some (l1,0,0)
def BG (s1:Str):Option (List aM × Int × Int):=
 if decide (4096 < (s1.length:Int)) then
  some ([],0,3)
 else
  mQ s1 BIG [] 0
def l7 (KX:Bool):Option Int:=
 if KX then
  some (-1)
 else
  some 1
def sM (a1:List Str) (b1:List Str):Nat→Int→Option Int
 | 0,_=>none
 | dA + 1,i1=>
  if (decide (i1 < (a1.length:Int))) && (decide (i1 < (b1.length:Int))) then
   ay (idx a1 i1) fun e1=>
   ay (idx b1 i1) fun e2=>
   ay (oz e1 e2) fun c1=>
   if c1 != 0 then
    l7 (decide (c1 < 0))
   else
    sM a1 b1 dA (bV (i1 + 1))
  else
   if (a1.length:Int) == (b1.length:Int) then
    some 0
   else
    l7 (decide ((a1.length:Int) < (b1.length:Int)))
def BS (a1:List Str) (b1:List Str):Option Int:=
 sM a1 b1 BIG 0
def w9 (iC:ak→ak→Option Int) (kT:List ak→List ak→Option Int) (a1:ak) (b1:ak):Option Int:=
 if a1.kind != b1.kind then
  l7 (decide (a1.kind < b1.kind))
 else
  if a1.kind == 1 then
   if !(a1.fU == b1.fU) then
    l7 b1.fU
   else
    some 0
  else
   if a1.kind == 2 then
    if a1.kF != b1.kF then
     l7 (decide (a1.kF < b1.kF))
    else
     some 0
   else
    if a1.kind == 3 then
     if !(a1.kC == b1.kC) then
      l7 (Go.Op.bytesLess a1.kC b1.kC)
     else
      some 0
    else
     if a1.kind == 4 then
      kT a1.bT b1.bT
     else
      if a1.kind == 5 then
       ay (BS a1.keys b1.keys) fun c1=>
       if c1 != 0 then
        some c1
       else
        kT a1.bT b1.bT
      else
       some 0
def sN (iC:ak→ak→Option Int) (a1:List ak) (b1:List ak):Nat→Int→Option Int
 | 0,_=>none
 | dA + 1,i1=>
  if (decide (i1 < (a1.length:Int))) && (decide (i1 < (b1.length:Int))) then
   ay (idx a1 i1) fun e1=>
   ay (idx b1 i1) fun e2=>
   ay (iC e1 e2) fun c1=>
   if c1 != 0 then
    some c1
   else
    sN iC a1 b1 dA (bV (i1 + 1))
  else
   if (a1.length:Int) == (b1.length:Int) then
    some 0
   else
    l7 (decide ((a1.length:Int) < (b1.length:Int)))
def Ap (iC:ak→ak→Option Int) (kT:List ak→List ak→Option Int) (a1:List ak) (b1:List ak):Option Int:=
 sN iC a1 b1 BIG 0
mutual
def jF :Nat→ak→ak→Option Int
 | 0,_,_=>none
 | k + 1,tJ,tH=>w9 (jF k) (qb k) tJ tH
def qb :Nat→List ak→List ak→Option Int
 | 0,_,_=>none
 | k + 1,tJ,tH=>Ap (jF k) (qb k) tJ tH
end
def Ar (tJ:ak) (tH:ak):Option Int:=jF BIG tJ tH
def Wz (tJ:List ak) (tH:List ak):Option Int:=qb BIG tJ tH
def za (a1:ak) (b1:ak):Option Bool:=
 ay (Ar a1 b1) fun x1=>
 some (x1 == 0)
def om (jl:ah→ah→Option Bool) (a1:ah) (b1:ah):Nat→Int→Option Bool
 | 0,_=>none
 | Mw + 1,i2=>
  if decide (i2 < (a1.args.length:Int)) then
   ay (idx a1.args i2) fun e3=>
   ay (idx b1.args i2) fun e4=>
   ay (jl e3 e4) fun x2=>
   if !x2 then
    some false
   else
    om jl a1 b1 Mw (bV (i2 + 1))
  else
   some true
def vM (jl:ah→ah→Option Bool) (a1:ah) (b1:ah):Nat→Int→Option Bool
 | 0,_=>none
 | dA + 1,i1=>
  if decide (i1 < (a1.keys.length:Int)) then
   ay (idx a1.keys i1) fun e1=>
   ay (idx b1.keys i1) fun e2=>
   if !(e1 == e2) then
    some false
   else
    vM jl a1 b1 dA (bV (i1 + 1))
  else
   om jl a1 b1 BIG 0
def xF (jl:ah→ah→Option Bool) (a1:ah) (b1:ah):Option Bool:=
 ay (
   if (((a1.kind != b1.kind) || (!(a1.name == b1.name))) || ((a1.keys.length:Int) != (b1.keys.length:Int))) || ((a1.args.length:Int) != (b1.args.length:Int)) then
    some true
   else
    ay (za a1.value b1.value) fun x1=>
    some (!x1)) fun b2=>
 if b2 then
  some false
 else
  vM jl a1 b1 BIG 0
def rT :Nat→ah→ah→Option Bool
 | 0,_,_=>none
 | k + 1,tJ,tH=>xF (rT k) tJ tH
def FD (tJ:ah) (tH:ah):Option Bool:=rT BIG tJ tH
def vg (a1:List aM) (b1:List aM):Nat→Int→Option Bool
 | 0,_=>none
 | dA + 1,i1=>
  if decide (i1 < (a1.length:Int)) then
   ay (idx a1 i1) fun e1=>
   ay (idx b1 i1) fun e2=>
   ay (
     if !(e1.Oh == e2.Oh) then
      some true
     else
      ay (idx a1 i1) fun e3=>
      ay (idx b1 i1) fun e4=>
      some (!(e3.text == e4.text))) fun b2=>
   ay (
     if b2 then
      some true
     else
      ay (idx a1 i1) fun e5=>
      ay (idx b1 i1) fun e6=>
      ay (FD e5.expr e6.expr) fun x1=>
      some (!x1)) fun b3=>
   if b3 then
    some false
   else
    vg a1 b1 dA (bV (i1 + 1))
  else
   some true
def El (a1:List aM) (b1:List aM):Option Bool:=
 if (a1.length:Int) != (b1.length:Int) then
  some false
 else
  vg a1 b1 BIG 0
def uK (s1:Str):Option Bool:=
 if decide (6000 < (s1.length:Int)) then
  Cb
 else
  lQ (lU s1) fun l1 cZ e1=>
  lQ (BG s1) fun m1 wO f1=>
  ay (El l1 m1) fun x2=>
  if (x2 && (cZ == wO)) && (e1 == f1) then
   Cb
  else
   some false
end Go.Ft
