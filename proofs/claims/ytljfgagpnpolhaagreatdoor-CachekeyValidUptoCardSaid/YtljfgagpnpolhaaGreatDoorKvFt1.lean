/- Proved here: nothing: the functional texts of the functions that the statements reach, as our program wrote them. -/
import Derived.Test.YtljfgagpnpolhaaGreatDoorKvWords
set_option linter.unusedVariables false
set_option linter.unusedSimpArgs false
set_option linter.unusedSectionVars false
namespace Go.Ft
open Go
structure av where
 kind:Int
 lJ:Bool
 mG:Int
 nu:Str
 dW:List av
 keys:List Str
structure b_ where
 path:Str
 digest:BitVec 64
 deriving DecidableEq
structure bF where
 key:Str
 restore:List Str
 files:List Str
 deriving DecidableEq
structure bE where
 name:Str
 value:av
structure dJ where
 spec:bF
 vars:List bE
 files:List b_
structure au where
 kind:Int
 text:Str
 at_:Int
 deriving DecidableEq
structure ah where
 ts:List au
 at_:Int
 deriving DecidableEq
structure ay where
 at_:Int
 code:Int
 deriving DecidableEq
structure aj where
 kind:Int
 name:Str
 value:av
 args:List aj
 keys:List Str
structure aR where
 text:Str
 Uy:Bool
 expr:aj
structure dD where
 set:List (BitVec 64)
 many:Bool
 literal:Bool
 char:UInt8
 deriving DecidableEq
structure aF where
 kind:Int
 items:List (List UInt8)
 deriving DecidableEq
structure dX where
 code:Int
 deriving DecidableEq
structure Yy where
 x:Int
 y:Int
 signed:Bool
 code:UInt8
 deriving DecidableEq
structure zl where
 x:Int
 y:Int
 signed:Bool
 code:UInt8
 deriving DecidableEq
structure Yx where
 msg:Str
 addr:BitVec 64
 deriving DecidableEq
structure rW where
 msg:Str
 addr:BitVec 64
 deriving DecidableEq
structure Yw where
 key:Str
 restore:List Str
 files:List Str
 deriving DecidableEq
structure Yv where
 spec:bF
 vars:List bE
 files:List b_
structure Yu where
 path:Str
 digest:BitVec 64
 deriving DecidableEq
structure Yt where
 kind:Int
 lJ:Bool
 mG:Int
 nu:Str
 dW:List av
 keys:List Str
structure Yr where
 name:Str
 value:av
structure aeF where
 set:List (BitVec 64)
 many:Bool
 literal:Bool
 char:UInt8
 deriving DecidableEq
structure Yq where
 kind:Int
 name:Str
 value:av
 args:List aj
 keys:List Str
structure Yp where
 text:Str
 Uy:Bool
 expr:aj
structure Yo where
 kind:Int
 text:Str
 at_:Int
 deriving DecidableEq
structure aeE where
 kind:Int
 items:List (List UInt8)
 deriving DecidableEq
structure Yn where
 ts:List au
 at_:Int
 deriving DecidableEq
structure Ym where
 at_:Int
 code:Int
 deriving DecidableEq
structure Yl where
 code:Int
 deriving DecidableEq
structure Yk where
 neg:Bool
 hi:BitVec 64
 lo:BitVec 64
 deriving DecidableEq
structure z_ where
 neg:Bool
 hi:BitVec 64
 lo:BitVec 64
 deriving DecidableEq
structure aeD where
 half:List (BitVec 64)
 neg:Bool
 deriving DecidableEq
structure abR where
 half:List (BitVec 64)
 neg:Bool
 deriving DecidableEq
structure Yj where
 lo:UInt8
 hi:UInt8
 deriving DecidableEq
structure CJ where
 lo:UInt8
 hi:UInt8
 deriving DecidableEq
structure aeC where
 func:Str
 num:Str
 err:Option Nat
structure Wh where
 func:Str
 num:Str
 err:Option Nat
structure Yi where
 s:Str
 deriving DecidableEq
structure Ab where
 s:Str
 deriving DecidableEq
mutual
def av.bulk :av→Nat
 | ⟨a0,a1,a2,a3,a4,a5⟩=>1 + 1 + 1 + (a3.length + 1) + (av.o9 a4 + 1) + ((List.map (fun z:Str=>(z.length + 1)) a5).sum + 1) + 1
def av.o9 :List av→Nat
 | []=>0
 | x :: xs=>av.bulk x + av.o9 xs
end
theorem av.vF :∀ l:List av,av.o9 l=(l.map av.bulk).sum
 | []=>rfl
 | x :: l=>by simp only [av.o9,List.map_cons,List.sum_cons,av.vF l]
theorem av.oD (x:av):av.bulk x=1 + 1 + 1 + (x.nu.length + 1) + (av.o9 x.dW + 1) + ((List.map (fun z:Str=>(z.length + 1)) x.keys).sum + 1) + 1:=by cases x; rfl
def b_.bulk (x:b_):Nat:=(x.path.length + 1) + 1 + 1
def bF.bulk (x:bF):Nat:=(x.key.length + 1) + ((List.map (fun z:Str=>(z.length + 1)) x.restore).sum + 1) + ((List.map (fun z:Str=>(z.length + 1)) x.files).sum + 1) + 1
def bE.bulk (x:bE):Nat:=(x.name.length + 1) + (av.bulk x.value) + 1
def dJ.bulk (x:dJ):Nat:=(bF.bulk x.spec) + ((List.map (fun z:bE=>(bE.bulk z)) x.vars).sum + 1) + ((List.map (fun z:b_=>(b_.bulk z)) x.files).sum + 1) + 1
def au.bulk (x:au):Nat:=1 + (x.text.length + 1) + 1 + 1
def ah.bulk (x:ah):Nat:=((List.map (fun z:au=>(au.bulk z)) x.ts).sum + 1) + 1 + 1
def ay.bulk (x:ay):Nat:=1 + 1 + 1
mutual
def aj.bulk :aj→Nat
 | ⟨a0,a1,a2,a3,a4⟩=>1 + (a1.length + 1) + (av.bulk a2) + (aj.o9 a3 + 1) + ((List.map (fun z:Str=>(z.length + 1)) a4).sum + 1) + 1
def aj.o9 :List aj→Nat
 | []=>0
 | x :: xs=>aj.bulk x + aj.o9 xs
end
theorem aj.vF :∀ l:List aj,aj.o9 l=(l.map aj.bulk).sum
 | []=>rfl
 | x :: l=>by simp only [aj.o9,List.map_cons,List.sum_cons,aj.vF l]
theorem aj.oD (x:aj):aj.bulk x=1 + (x.name.length + 1) + (av.bulk x.value) + (aj.o9 x.args + 1) + ((List.map (fun z:Str=>(z.length + 1)) x.keys).sum + 1) + 1:=by cases x; rfl
def aR.bulk (x:aR):Nat:=(x.text.length + 1) + 1 + (aj.bulk x.expr) + 1
def dX.bulk (x:dX):Nat:=1 + 1
def Yy.bulk (x:Yy):Nat:=1 + 1 + 1 + 1 + 1
def zl.bulk (x:zl):Nat:=1 + 1 + 1 + 1 + 1
def Yx.bulk (x:Yx):Nat:=(x.msg.length + 1) + 1 + 1
def rW.bulk (x:rW):Nat:=(x.msg.length + 1) + 1 + 1
def Yw.bulk (x:Yw):Nat:=(x.key.length + 1) + ((List.map (fun z:Str=>(z.length + 1)) x.restore).sum + 1) + ((List.map (fun z:Str=>(z.length + 1)) x.files).sum + 1) + 1
def Yv.bulk (x:Yv):Nat:=(bF.bulk x.spec) + ((List.map (fun z:bE=>(bE.bulk z)) x.vars).sum + 1) + ((List.map (fun z:b_=>(b_.bulk z)) x.files).sum + 1) + 1
def Yu.bulk (x:Yu):Nat:=(x.path.length + 1) + 1 + 1
def Yt.bulk (x:Yt):Nat:=1 + 1 + 1 + (x.nu.length + 1) + (av.o9 x.dW + 1) + ((List.map (fun z:Str=>(z.length + 1)) x.keys).sum + 1) + 1
def Yr.bulk (x:Yr):Nat:=(x.name.length + 1) + (av.bulk x.value) + 1
def Yq.bulk (x:Yq):Nat:=1 + (x.name.length + 1) + (av.bulk x.value) + (aj.o9 x.args + 1) + ((List.map (fun z:Str=>(z.length + 1)) x.keys).sum + 1) + 1
def Yp.bulk (x:Yp):Nat:=(x.text.length + 1) + 1 + (aj.bulk x.expr) + 1
def Yo.bulk (x:Yo):Nat:=1 + (x.text.length + 1) + 1 + 1
def Yn.bulk (x:Yn):Nat:=((List.map (fun z:au=>(au.bulk z)) x.ts).sum + 1) + 1 + 1
def Ym.bulk (x:Ym):Nat:=1 + 1 + 1
def Yl.bulk (x:Yl):Nat:=1 + 1
def Yk.bulk (x:Yk):Nat:=1 + 1 + 1 + 1
def z_.bulk (x:z_):Nat:=1 + 1 + 1 + 1
def Yj.bulk (x:Yj):Nat:=1 + 1 + 1
def CJ.bulk (x:CJ):Nat:=1 + 1 + 1
def Yi.bulk (x:Yi):Nat:=(x.s.length + 1) + 1
def Ab.bulk (x:Ab):Nat:=(x.s.length + 1) + 1
def ng (l1:List Str):Nat→Int→Option Bool
 | 0,_=>none
 | dw + 1,i1=>
  if (decide (i1 < (l1.length:Int))) && (decide (i1 < 10)) then
   aA (idx l1 i1) fun e1=>
   if decide (60 < (e1.length:Int)) then
    some false
   else
    ng l1 dw (bI (i1 + 1))
  else
   some (decide ((l1.length:Int)≤10))
def xS (l1:List Str):Option Bool:=
 ng l1 BIG 0
def xU (jg:av→Int→Option Int) (v1:av):Nat→Int→Int→Option Int
 | 0,_,_=>none
 | xW + 1,EF,i2=>
  if (decide (i2 < (v1.dW.length:Int))) && (decide (0≤EF)) then
   aA (idx v1.dW i2) fun e2=>
   aA (jg e2 EF) fun XF=>
   xU jg v1 xW XF (bI (i2 + 1))
  else
   some (bI (EF - (bI (((v1.keys.length:Int):Int).tdiv 40))))
def xV (jg:av→Int→Option Int) (v1:av):Nat→Int→Int→Option Int
 | 0,_,_=>none
 | dw + 1,EG,i1=>
  if (decide (i1 < (v1.keys.length:Int))) && (decide (i1 < 40)) then
   aA (idx v1.keys i1) fun e1=>
   xV jg v1 dw (bI ((bI (EG - 1)) - (bI (((e1.length:Int):Int).tdiv 8)))) (bI (i1 + 1))
  else
   xU jg v1 BIG EG 0
def Dq (jg:av→Int→Option Int) (v1:av) (xD:Int):Option Int:=
 xV jg v1 BIG (bI ((bI (xD - 1)) - (bI (((v1.nu.length:Int):Int).tdiv 8)))) 0
def wT :Nat→av→Int→Option Int
 | 0,_,_=>none
 | k + 1,Cq,xk=>Dq (wT k) Cq xk
def ND (Cq:av) (xk:Int):Option Int:=wT BIG Cq xk
def uU (l1:List b_):Nat→Int→Option Bool
 | 0,_=>none
 | dw + 1,i1=>
  if (decide (i1 < (l1.length:Int))) && (decide (i1 < 20)) then
   aA (idx l1 i1) fun e1=>
   if decide (120 < (e1.path.length:Int)) then
    some false
   else
    uU l1 dw (bI (i1 + 1))
  else
   some (decide ((l1.length:Int)≤20))
def Ef (l1:List b_):Option Bool:=
 uU l1 BIG 0
def vQ (u1:dJ):Nat→Int→Option Bool
 | 0,_=>none
 | xW + 1,i2=>
  if decide (i2 < (u1.vars.length:Int)) then
   aA (idx u1.vars i2) fun e2=>
   aA (
     if decide (120 < (e2.name.length:Int)) then
      some true
     else
      aA (idx u1.vars i2) fun e3=>
      aA (ND e3.value 100) fun x2=>
      some (decide (x2 < 0))) fun b2=>
   if b2 then
    some false
   else
    vQ u1 xW (bI (i2 + 1))
  else
   Ef u1.files
def vR (u1:dJ):Nat→Int→Option Bool
 | 0,_=>none
 | dw + 1,i1=>
  if decide (i1 < (u1.spec.restore.length:Int)) then
   aA (idx u1.spec.restore i1) fun e1=>
   if decide (120 < (e1.length:Int)) then
    some false
   else
    vR u1 dw (bI (i1 + 1))
  else
   vQ u1 BIG 0
def Gc (u1:dJ):Option Bool:=
 aA (
   if (((decide (120 < (u1.spec.key.length:Int))) || (decide (10 < (u1.spec.restore.length:Int)))) || (decide (10 < (u1.vars.length:Int)))) || (decide (20 < (u1.files.length:Int))) then
    some true
   else
    aA (xS u1.spec.files) fun x1=>
    some (!x1)) fun b1=>
 if b1 then
  some false
 else
  vR u1 BIG 0
def jh (s1:Str) (kF:Str):Option Bool:=
 if decide ((kF.length:Int)≤(s1.length:Int)) then
  aA (sl s1 0 (kF.length:Int)) fun x1=>
  some (x1 == kF)
 else
  some false
def strings_HasPrefix (s1:Str) (kF:Str):Option Bool:=
 jh s1 kF
def kN (s1:Str):Nat→Int→Option Int
 | 0,_=>none
 | dw + 1,i1=>
  if decide (i1 < (s1.length:Int)) then
   aA (idx s1 i1) fun x1=>
   if (x1.toNat:Int) == 92 then
    kN s1 dw (bI ((bI (i1 + 1)) + 1))
   else
    if (x1.toNat:Int) == 34 then
     some (bI (i1 + 1))
    else
     kN s1 dw (bI (i1 + 1))
  else
   some (s1.length:Int)
def wo (s1:Str) (bO:Int):Option Int:=
 kN s1 BIG (bI (bO + 1))
def ig (s1:Str):Nat→Int→Int→Option Int
 | 0,_,_=>none
 | dw + 1,at2,eU=>
  if decide (at2 < (s1.length:Int)) then
   aA (idx s1 at2) fun x1=>
   if (x1.toNat:Int) == 34 then
    aA (wo s1 at2) fun at3=>
    ig s1 dw at3 eU
   else
    if (x1.toNat:Int) == 123 then
     ig s1 dw (bI (at2 + 1)) (bI (eU + 1))
    else
     if (x1.toNat:Int) == 125 then
      if eU == 0 then
       some at2
      else
       ig s1 dw (bI (at2 + 1)) (bI (eU - 1))
     else
      ig s1 dw (bI (at2 + 1)) eU
  else
   some (-1)
def uV (s1:Str) (bO:Int):Option Int:=
 ig s1 BIG bO 0
def uR (kC:Int):Option Bool:=
 some ((kC == 32) || (kC == 9))
def oL (s1:Str) (DI:UInt8→Option Bool):Nat→Int→Option Int
 | 0,_=>none
 | dw + 1,at2=>
  aA (
    if decide (at2 < (s1.length:Int)) then
     aA (idx s1 at2) fun x1=>
     DI x1
    else
     some false) fun b1=>
  if b1 then
   oL s1 DI dw (bI (at2 + 1))
  else
   some at2
def uf (s1:Str) (bO:Int) (DI:UInt8→Option Bool):Option Int:=
 oL s1 DI BIG bO
def qQ (c1:UInt8):Option Bool:=
 some ((c1.toNat:Int) != 10)
def pG (c1:UInt8):Option Bool:=
 some ((((decide (97≤(c1.toNat:Int))) && (decide ((c1.toNat:Int)≤122))) || ((decide (65≤(c1.toNat:Int))) && (decide ((c1.toNat:Int)≤90)))) || ((c1.toNat:Int) == 95))
def o8 (c1:UInt8):Option Bool:=
 some ((decide (48≤(c1.toNat:Int))) && (decide ((c1.toNat:Int)≤57)))
def rF (c1:UInt8):Option Bool:=
 aA (pG c1) fun x1=>
 if x1 then
  some true
 else
  o8 c1
def yR (bJ:Str) (bO:Int):Option (au × Int × Int):=
 aA (uf bJ bO rF) fun pR=>
 if decide (64 < (bI (pR - bO))) then
  some ((au.mk 0 ([]:Str) 0),0,3)
 else
  aA (sl bJ bO pR) fun x1=>
  some ((au.mk 1 x1 bO),pR,0)
def oM (wz:Str):Nat→Int→Int→Option Bool
 | 0,_,_=>none
 | dw + 1,n1,i1=>
  if (decide (i1 < (wz.length:Int))) && (decide (n1≤9007199254740992)) then
   aA (idx wz i1) fun x1=>
   oM wz dw (bI ((bI (10 * n1)) + ((x1 - 48).toNat:Int))) (bI (i1 + 1))
  else
   some (decide (9007199254740992 < n1))
def zO (wz:Str):Option Bool:=
 oM wz BIG 0 0
def uQ (bJ:Str) (bO:Int):Option (au × Int × Int):=
 aA (uf bJ bO o8) fun pR=>
 aA (sl bJ bO pR) fun text1=>
 aA (
   if decide (1 < (text1.length:Int)) then
    aA (idx text1 0) fun x1=>
    some ((x1.toNat:Int) == 48)
   else
    some false) fun b1=>
 aA (
   if b1 then
    some true
   else
    if decide (pR < (bJ.length:Int)) then
     aA (idx bJ pR) fun x2=>
     pG x2
    else
     some false) fun b2=>
 if b2 then
  some ((au.mk 0 ([]:Str) 0),0,5)
 else
  aA (zO text1) fun x4=>
  if x4 then
   some ((au.mk 0 ([]:Str) 0),0,2)
  else
   some ((au.mk 2 text1 bO),pR,0)
def rG (c1:UInt8):Option Int:=
 aA (o8 c1) fun x1=>
 if x1 then
  some ((c1 - 48).toNat:Int)
 else
  if (decide (97≤(c1.toNat:Int))) && (decide ((c1.toNat:Int)≤102)) then
   some (bI (((c1 - 97).toNat:Int) + 10))
  else
   if (decide (65≤(c1.toNat:Int))) && (decide ((c1.toNat:Int)≤70)) then
    some (bI (((c1 - 65).toNat:Int) + 10))
   else
    some (-1)
def sH (bJ:Str) (bO:Int):Option (UInt8 × Int):=
 if decide ((bJ.length:Int)≤(bI (bO + 1))) then
  some (0,0)
 else
  aA (idx bJ (bI (bO + 1))) fun c1=>
  if (c1.toNat:Int) == 34 then
   some (c1,2)
  else
   if (c1.toNat:Int) == 92 then
    some (c1,2)
   else
    if (c1.toNat:Int) == 110 then
     some (10,2)
    else
     if (c1.toNat:Int) == 116 then
      some (9,2)
     else
      if (c1.toNat:Int) == 120 then
       aA (
         if decide ((bI (bO + 3)) < (bJ.length:Int)) then
          aA (idx bJ (bI (bO + 2))) fun x1=>
          aA (rG x1) fun x2=>
          some (decide (0≤x2))
         else
          some false) fun b1=>
       aA (
         if b1 then
          aA (idx bJ (bI (bO + 3))) fun x3=>
          aA (rG x3) fun x4=>
          some (decide (0≤x4))
         else
          some false) fun b2=>
       if b2 then
        aA (idx bJ (bI (bO + 2))) fun x5=>
        aA (rG x5) fun x6=>
        aA (idx bJ (bI (bO + 3))) fun x7=>
        aA (rG x7) fun x8=>
        some ((Ft.byteOf (bI ((bI (16 * x6)) + x8))),4)
       else
        some (0,0)
      else
       some (0,0)
def wS (bJ:Str) (bO:Int):Option Bool:=
 aA (sl bJ (bI (bO + 1)) (bJ.length:Int)) fun Dc=>
 if (Dc == ([]:Str)) || (Dc == ([120]:Str)) then
  some true
 else
  aA (
    if (Dc.length:Int) == 2 then
     aA (idx Dc 0) fun x1=>
     some ((x1.toNat:Int) == 120)
    else
     some false) fun b2=>
  if b2 then
   aA (idx Dc 1) fun x2=>
   aA (rG x2) fun x3=>
   some (decide (0≤x3))
  else
   some false
def ow (bJ:Str) (bO:Int):Nat→Int→Str→Option (au × Int × Int)
 | 0,_,_=>none
 | dw + 1,i1,b1=>
  if decide (i1 < (bJ.length:Int)) then
   aA (idx bJ i1) fun c1=>
   if (c1.toNat:Int) == 34 then
    if decide (4096 < (b1.length:Int)) then
     some ((au.mk 0 ([]:Str) 0),0,3)
    else
     some ((au.mk 3 b1 bO),(bI (i1 + 1)),0)
   else
    if decide ((c1.toNat:Int) < 32) then
     some ((au.mk 0 ([]:Str) 0),0,5)
    else
     if (c1.toNat:Int) == 92 then
      iA (sH bJ i1) fun x1 n1=>
      aA (
        if n1 == 0 then
         wS bJ i1
        else
         some false) fun b2=>
      if b2 then
       some ((au.mk 0 ([]:Str) 0),0,4)
      else
       if n1 == 0 then
        some ((au.mk 0 ([]:Str) 0),0,5)
       else
        aA (app b1 [x1]) fun b3=>
        ow bJ bO dw (bI (i1 + n1)) b3
     else
      aA (app b1 [c1]) fun b4=>
      ow bJ bO dw (bI (i1 + 1)) b4
  else
   some ((au.mk 0 ([]:Str) 0),0,4)
def yQ (bJ:Str) (bO:Int):Option (au × Int × Int):=
 ow bJ bO BIG (bI (bO + 1)) []
def jf (bJ:Str) (bO:Int):Nat→Int→Option (au × Int × Int)
 | 0,_=>none
 | dw + 1,x1=>
  if decide (x1 < (([2,1]:List Int).length:Int)) then
   aA (idx ([2,1]:List Int) x1) fun n1=>
   if decide ((bJ.length:Int) < (bI (bO + n1))) then
    jf bJ bO dw (bI (x1 + 1))
   else
    aA (sl bJ bO (bI (bO + n1))) fun s1=>
    if s1 == ([124,124]:Str) then
     some ((au.mk 4 s1 bO),(bI (bO + n1)),0)
    else
     if s1 == ([38,38]:Str) then
      some ((au.mk 4 s1 bO),(bI (bO + n1)),0)
     else
      if s1 == ([61,61]:Str) then
       some ((au.mk 4 s1 bO),(bI (bO + n1)),0)
      else
       if s1 == ([33,61]:Str) then
        some ((au.mk 4 s1 bO),(bI (bO + n1)),0)
       else
        if s1 == ([60,61]:Str) then
         some ((au.mk 4 s1 bO),(bI (bO + n1)),0)
        else
         if s1 == ([62,61]:Str) then
          some ((au.mk 4 s1 bO),(bI (bO + n1)),0)
         else
          if s1 == ([60]:Str) then
           some ((au.mk 4 s1 bO),(bI (bO + n1)),0)
          else
           if s1 == ([62]:Str) then
            some ((au.mk 4 s1 bO),(bI (bO + n1)),0)
           else
            if s1 == ([43]:Str) then
             some ((au.mk 4 s1 bO),(bI (bO + n1)),0)
            else
             if s1 == ([45]:Str) then
              some ((au.mk 4 s1 bO),(bI (bO + n1)),0)
             else
              if s1 == ([42]:Str) then
               some ((au.mk 4 s1 bO),(bI (bO + n1)),0)
              else
               if s1 == ([47]:Str) then
                some ((au.mk 4 s1 bO),(bI (bO + n1)),0)
               else
                if s1 == ([37]:Str) then
                 some ((au.mk 4 s1 bO),(bI (bO + n1)),0)
                else
                 if s1 == ([33]:Str) then
                  some ((au.mk 4 s1 bO),(bI (bO + n1)),0)
                 else
                  if s1 == ([63]:Str) then
                   some ((au.mk 4 s1 bO),(bI (bO + n1)),0)
                  else
                   if s1 == ([58]:Str) then
                    some ((au.mk 4 s1 bO),(bI (bO + n1)),0)
                   else
                    if s1 == ([46]:Str) then
                     some ((au.mk 4 s1 bO),(bI (bO + n1)),0)
                    else
                     if s1 == ([44]:Str) then
                      some ((au.mk 4 s1 bO),(bI (bO + n1)),0)
                     else
                      if s1 == ([61]:Str) then
                       some ((au.mk 4 s1 bO),(bI (bO + n1)),0)
                      else
                       if s1 == ([40]:Str) then
                        some ((au.mk 4 s1 bO),(bI (bO + n1)),0)
                       else
                        if s1 == ([41]:Str) then
                         some ((au.mk 4 s1 bO),(bI (bO + n1)),0)
                        else
                         if s1 == ([91]:Str) then
                          some ((au.mk 4 s1 bO),(bI (bO + n1)),0)
                         else
                          if s1 == ([93]:Str) then
                           some ((au.mk 4 s1 bO),(bI (bO + n1)),0)
                          else
                           if s1 == ([123]:Str) then
                            some ((au.mk 4 s1 bO),(bI (bO + n1)),0)
                           else
                            if s1 == ([125]:Str) then
                             some ((au.mk 4 s1 bO),(bI (bO + n1)),0)
                            else
                             jf bJ bO dw (bI (x1 + 1))
  else
   some ((au.mk 0 ([]:Str) 0),0,5)
def qO (bJ:Str) (bO:Int):Option (au × Int × Int):=
 jf bJ bO BIG 0
def wR (bJ:Str) (bO:Int):Option (au × Int × Int):=
 aA (idx bJ bO) fun c1=>
 aA (pG c1) fun x1=>
 if x1 then
  yR bJ bO
 else
  aA (o8 c1) fun x5=>
  if x5 then
   uQ bJ bO
  else
   if (c1.toNat:Int) == 34 then
    yQ bJ bO
   else
    qO bJ bO
def qP (op1:Str) (eU:Int):Option Int:=
 if op1 == ([40]:Str) then
  some (bI (eU + 1))
 else
  if op1 == ([91]:Str) then
   some (bI (eU + 1))
  else
   if op1 == ([41]:Str) then
    some (if 0 < (bI (eU - 1)) then (bI (eU - 1)) else 0)
   else
    if op1 == ([93]:Str) then
     some (if 0 < (bI (eU - 1)) then (bI (eU - 1)) else 0)
    else
     some eU
def iV (bJ:Str):Nat→List au→Int→Int→Nat→Option (List au × Int × Int)
 | 0,_,_,_,_=>none
 | dw + 1,cK,g_,eU,pos1=>
  if decide (pos1 < bJ.length) then
   aA (
     if decide ((pos1:Int) < g_) then
      some true
     else
      uR ((dec bJ pos1).1:Int)) fun b1=>
   if b1 then
    iV bJ dw cK g_ eU (pos1 + (dec bJ pos1).2)
   else
    if ((dec bJ pos1).1:Int) == 35 then
     aA (uf bJ (pos1:Int) qQ) fun t_=>
     iV bJ dw cK t_ eU (pos1 + (dec bJ pos1).2)
    else
     if ((dec bJ pos1).1:Int) == 10 then
      aA (
        if eU == 0 then
         if (cK.length:Int) == 0 then
          some true
         else
          aA (idx cK (bI ((cK.length:Int) - 1))) fun e1=>
          some (e1.kind != 5)
        else
         some false) fun b2=>
      if b2 then
       aA (app cK [(au.mk 5 ([]:Str) (pos1:Int))]) fun qc=>
       iV bJ dw qc g_ eU (pos1 + (dec bJ pos1).2)
      else
       iV bJ dw cK g_ eU (pos1 + (dec bJ pos1).2)
     else
      lq (wR bJ (pos1:Int)) fun x2 pR e2=>
      if e2 != 0 then
       some ([],(pos1:Int),e2)
      else
       if x2.kind == 4 then
        aA (qP x2.text eU) fun KJ=>
        aA (app cK [x2]) fun rY=>
        iV bJ dw rY pR KJ (pos1 + (dec bJ pos1).2)
       else
        aA (app cK [x2]) fun SG=>
        iV bJ dw SG pR eU (pos1 + (dec bJ pos1).2)
  else
   some (cK,0,0)
def lY (bJ:Str):Option (List au × Int × Int):=
 if decide (65536 < (bJ.length:Int)) then
  some ([],0,3)
 else
  iV bJ BIG [] 0 0 0
def sF (c1:UInt8):Option Bool:=
 some ((((decide (97≤(c1.toNat:Int))) && (decide ((c1.toNat:Int)≤122))) || ((decide (65≤(c1.toNat:Int))) && (decide ((c1.toNat:Int)≤90)))) || ((c1.toNat:Int) == 95))
def lX (c1:UInt8):Option Bool:=
 some ((decide (48≤(c1.toNat:Int))) && (decide ((c1.toNat:Int)≤57)))
def oJ (s1:Str):Nat→Int→Option Bool
 | 0,_=>none
 | dw + 1,i1=>
  if decide (i1 < (s1.length:Int)) then
   aA (idx s1 i1) fun x3=>
   aA (sF x3) fun x4=>
   aA (
     if !x4 then
      aA (idx s1 i1) fun x5=>
      aA (lX x5) fun x6=>
      some (!x6)
     else
      some false) fun b2=>
   if b2 then
    some false
   else
    oJ s1 dw (bI (i1 + 1))
  else
   some true
def tZ (s1:Str):Option Bool:=
 aA (
   if (decide ((s1.length:Int) < 1)) || (decide (64 < (s1.length:Int))) then
    some true
   else
    aA (idx s1 0) fun x1=>
    aA (sF x1) fun x2=>
    some (!x2)) fun b1=>
 if b1 then
  some false
 else
  oJ s1 BIG 0
def strconv_Atoi (s1:Str):Option (Int × Option Nat):=
 if s1.length≤281474976710656 then some ((Bt s1).2,if (Bt s1).1=0 then none else some 338) else none
def j5 (s1:Str):Nat→Int→Option Bool
 | 0,_=>none
 | dw + 1,i1=>
  if decide (i1 < (s1.length:Int)) then
   aA (idx s1 i1) fun x2=>
   aA (lX x2) fun x3=>
   if !x3 then
    some false
   else
    j5 s1 dw (bI (i1 + 1))
  else
   iA (strconv_Atoi s1) fun n1 Q7=>
   some ((Q7.isNone) && (decide (n1≤9007199254740992)))
def qM (s1:Str):Option Bool:=
 aA (
   if s1 == ([]:Str) then
    some true
   else
    if decide (1 < (s1.length:Int)) then
     aA (idx s1 0) fun x1=>
     some ((x1.toNat:Int) == 48)
    else
     some false) fun b1=>
 if b1 then
  some false
 else
  j5 s1 BIG 0
def jk (t1:au):Option Bool:=
 if t1.kind == 1 then
  tZ t1.text
 else
  if t1.kind == 2 then
   qM t1.text
  else
   if t1.kind == 3 then
    some (decide ((t1.text.length:Int)≤4096))
   else
    if t1.kind == 4 then
     some true
    else
     some false
def jl (kC:ah):Option (au × ah):=
 aA (
   if decide (kC.at_ < (kC.ts.length:Int)) then
    aA (idx kC.ts kC.at_) fun e1=>
    jk e1
   else
    some false) fun b1=>
 if b1 then
  aA (idx kC.ts kC.at_) fun e2=>
  some (e2,kC)
 else
  some ((au.mk 0 ([]:Str) 0),kC)
def rE (kC:ah) (op1:Str):Option (Bool × ah):=
 iA (jl kC) fun x1 y1=>
 some (((x1.kind == 4) && (x1.text == op1)),y1)
def dK (kC:ah) (op1:Str):Option (Bool × ah):=
 iA (rE kC op1) fun x1 y1=>
 if !x1 then
  some (false,y1)
 else
  some (true,(ah.mk y1.ts (bI (y1.at_ + 1))))
def gM (kC:ah) (e1:Int):Option (iG ay Unit × ah):=
 some (.bad (ay.mk kC.at_ e1),kC)
def jm (kC:ah):Option (iG ay au × ah):=
 if decide ((kC.ts.length:Int)≤kC.at_) then
  gy (gM kC 4) (fun e1 y2=>some (.bad e1,y2)) fun _ y1=>
  iA (jl y1) fun x1 y3=>
  if x1.kind == 0 then
   gy (gM y3 5) (fun e2 y5=>some (.bad e2,y5)) fun _ y4=>
   some (.ok x1,y4)
  else
   some (.ok x1,y3)
 else
  iA (jl kC) fun x2 y6=>
  if x2.kind == 0 then
   gy (gM y6 5) (fun e3 y8=>some (.bad e3,y8)) fun _ y7=>
   some (.ok x2,y7)
  else
   some (.ok x2,y6)
def oK (v1:av):Option aj:=
 some (aj.mk 1 ([]:Str) v1 [] [])
def nJ (s1:Str):Option Bool:=
 some (((s1 == ([116,114,117,101]:Str)) || (s1 == ([102,97,108,115,101]:Str))) || (s1 == ([110,117,108,108]:Str)))
def fA (kC:ah) (op1:Str):Option (iG ay Unit × ah):=
 gy (jm kC) (fun e1 y2=>some (.bad e1,y2)) fun x1 y1=>
 iA (dK y1 op1) fun x2 y3=>
 if !x2 then
  gy (gM y3 5) (fun e2 y5=>some (.bad e2,y5)) fun _ y4=>
  some (.ok (),y4)
 else
  some (.ok (),y3)
def iU (op1:Str):Option Int:=
 if op1 == ([124,124]:Str) then
  some 2
 else
  if op1 == ([38,38]:Str) then
   some 3
  else
   if op1 == ([61,61]:Str) then
    some 4
   else
    if op1 == ([33,61]:Str) then
     some 4
    else
     if op1 == ([60]:Str) then
      some 4
     else
      if op1 == ([60,61]:Str) then
       some 4
      else
       if op1 == ([62]:Str) then
        some 4
       else
        if op1 == ([62,61]:Str) then
         some 4
        else
         if op1 == ([43]:Str) then
          some 5
         else
          if op1 == ([45]:Str) then
           some 5
          else
           if op1 == ([42]:Str) then
            some 6
           else
            if op1 == ([47]:Str) then
             some 6
            else
             if op1 == ([37]:Str) then
              some 6
             else
              some 0
def kG (aD:ah→Option (iG ay aj × ah)) (aL:ah→Int→Option (iG ay aj × ah)) (aN:ah→Option (iG ay aj × ah)) (aO:ah→Option (iG ay aj × ah)) (aZ:ah→Option (iG ay aj × ah)) (aY:ah→Str→Option (iG ay aj × ah)) (aX:ah→Str→Option (iG ay (List aj) × ah)) (aP:ah→Option (iG ay aj × ah)) (kC:ah):Option (iG ay aj × ah):=
 gy (aL kC 2) (fun e1 y2=>some (.bad e1,y2)) fun x1 y1=>
 iA (dK y1 ([63]:Str)) fun x2 y3=>
 if !x2 then
  some (.ok x1,y3)
 else
  gy (aD y3) (fun e2 y5=>some (.bad e2,y5)) fun x3 y4=>
  gy (fA y4 ([58]:Str)) (fun e3 y7=>some (.bad e3,y7)) fun _ y6=>
  gy (aD y6) (fun e4 y9=>some (.bad e4,y9)) fun x4 y8=>
  some (.ok (aj.mk 8 ([]:Str) (av.mk 0 false 0 ([]:Str) [] []) [x1,x3,x4] []),y8)
def iN (aL:ah→Int→Option (iG ay aj × ah)) (n1:Int):Nat→aj→ah→Option (iG ay aj × ah)
 | 0,_,_=>none
 | dw + 1,e3,y5=>
  iA (jl y5) fun x3 y6=>
  aA (
    if x3.kind != 4 then
     some true
    else
     aA (iU x3.text) fun x4=>
     some (x4 != n1)) fun b1=>
  if b1 then
   some (.ok e3,y6)
  else
   gy (aL (ah.mk y6.ts (bI (y6.at_ + 1))) (bI (n1 + 1))) (fun e4 y8=>some (.bad e4,y8)) fun x5 y7=>
   if n1 == 4 then
    some (.ok (aj.mk 7 x3.text (av.mk 0 false 0 ([]:Str) [] []) [e3,x5] []),y7)
   else
    iN aL n1 dw (aj.mk 7 x3.text (av.mk 0 false 0 ([]:Str) [] []) [e3,x5] []) y7
def jD (aD:ah→Option (iG ay aj × ah)) (aL:ah→Int→Option (iG ay aj × ah)) (aN:ah→Option (iG ay aj × ah)) (aO:ah→Option (iG ay aj × ah)) (aZ:ah→Option (iG ay aj × ah)) (aY:ah→Str→Option (iG ay aj × ah)) (aX:ah→Str→Option (iG ay (List aj) × ah)) (aP:ah→Option (iG ay aj × ah)) (kC:ah) (n1:Int):Option (iG ay aj × ah):=
 if n1 == 7 then
  gy (aN kC) (fun e1 y2=>some (.bad e1,y2)) fun x1 y1=>
  some (.ok x1,y1)
 else
  gy (aL kC (bI (n1 + 1))) (fun e2 y4=>some (.bad e2,y4)) fun x2 y3=>
  iN aL n1 BIG x2 y3
def iT (aN:ah→Option (iG ay aj × ah)) (aO:ah→Option (iG ay aj × ah)):Nat→Int→ah→Option (iG ay aj × ah)
 | 0,_,_=>none
 | dw + 1,x1,y1=>
  if decide (x1 < (([([33]:Str),([45]:Str)]:List Str).length:Int)) then
   aA (idx ([([33]:Str),([45]:Str)]:List Str) x1) fun op1=>
   iA (dK y1 op1) fun x2 y2=>
   if x2 then
    gy (aN y2) (fun e1 y4=>some (.bad e1,y4)) fun x3 y3=>
    some (.ok (aj.mk 6 op1 (av.mk 0 false 0 ([]:Str) [] []) [x3] []),y3)
   else
    iT aN aO dw (bI (x1 + 1)) y2
  else
   gy (aO y1) (fun e2 y6=>some (.bad e2,y6)) fun x4 y5=>
   some (.ok x4,y5)
def mP (aD:ah→Option (iG ay aj × ah)) (aL:ah→Int→Option (iG ay aj × ah)) (aN:ah→Option (iG ay aj × ah)) (aO:ah→Option (iG ay aj × ah)) (aZ:ah→Option (iG ay aj × ah)) (aY:ah→Str→Option (iG ay aj × ah)) (aX:ah→Str→Option (iG ay (List aj) × ah)) (aP:ah→Option (iG ay aj × ah)) (kC:ah):Option (iG ay aj × ah):=
 iT aN aO BIG 0 kC
def gB (aD:ah→Option (iG ay aj × ah)):Nat→aj→ah→Option (iG ay aj × ah)
 | 0,_,_=>none
 | dw + 1,e2,y3=>
  iA (dK y3 ([46]:Str)) fun x2 y4=>
  if x2 then
   gy (jm y4) (fun e3 y6=>some (.bad e3,y6)) fun x3 y5=>
   aA (
     if x3.kind != 1 then
      some true
     else
      nJ x3.text) fun b1=>
   if b1 then
    gy (gM y5 5) (fun e4 y8=>some (.bad e4,y8)) fun _ y7=>
    gB aD dw (aj.mk 3 x3.text (av.mk 0 false 0 ([]:Str) [] []) [e2] []) (ah.mk y7.ts (bI (y7.at_ + 1)))
   else
    gB aD dw (aj.mk 3 x3.text (av.mk 0 false 0 ([]:Str) [] []) [e2] []) (ah.mk y5.ts (bI (y5.at_ + 1)))
  else
   iA (dK y4 ([91]:Str)) fun x5 y9=>
   if x5 then
    gy (aD y9) (fun e5 Yz=>some (.bad e5,Yz)) fun x6 YG=>
    gy (fA YG ([93]:Str)) (fun e6 y13=>some (.bad e6,y13)) fun _ YF=>
    gB aD dw (aj.mk 4 ([]:Str) (av.mk 0 false 0 ([]:Str) [] []) [e2,x6] []) YF
   else
    some (.ok e2,y9)
def mQ (aD:ah→Option (iG ay aj × ah)) (aL:ah→Int→Option (iG ay aj × ah)) (aN:ah→Option (iG ay aj × ah)) (aO:ah→Option (iG ay aj × ah)) (aZ:ah→Option (iG ay aj × ah)) (aY:ah→Str→Option (iG ay aj × ah)) (aX:ah→Str→Option (iG ay (List aj) × ah)) (aP:ah→Option (iG ay aj × ah)) (kC:ah):Option (iG ay aj × ah):=
 gy (aZ kC) (fun e1 y2=>some (.bad e1,y2)) fun x1 y1=>
 gB aD BIG x1 y1
def nL (aD:ah→Option (iG ay aj × ah)) (aL:ah→Int→Option (iG ay aj × ah)) (aN:ah→Option (iG ay aj × ah)) (aO:ah→Option (iG ay aj × ah)) (aZ:ah→Option (iG ay aj × ah)) (aY:ah→Str→Option (iG ay aj × ah)) (aX:ah→Str→Option (iG ay (List aj) × ah)) (aP:ah→Option (iG ay aj × ah)) (kC:ah):Option (iG ay aj × ah):=
 gy (jm kC) (fun e1 y2=>some (.bad e1,y2)) fun x1 y1=>
 if x1.kind == 2 then
  iA (strconv_Atoi x1.text) fun n1 x2=>
  aA (oK (av.mk 2 false n1 ([]:Str) [] [])) fun x3=>
  some (.ok x3,(ah.mk y1.ts (bI (y1.at_ + 1))))
 else
  if x1.kind == 3 then
   aA (oK (av.mk 3 false 0 x1.text [] [])) fun x4=>
   some (.ok x4,(ah.mk y1.ts (bI (y1.at_ + 1))))
  else
   if x1.kind == 1 then
    gy (aY (ah.mk y1.ts (bI (y1.at_ + 1))) x1.text) (fun e2 y4=>some (.bad e2,y4)) fun x5 y3=>
    some (.ok x5,y3)
   else
    iA (dK y1 ([40]:Str)) fun x6 y5=>
    if x6 then
     gy (aD y5) (fun e3 y7=>some (.bad e3,y7)) fun x7 y6=>
     gy (fA y6 ([41]:Str)) (fun e4 y9=>some (.bad e4,y9)) fun _ y8=>
     some (.ok x7,y8)
    else
     iA (dK y5 ([91]:Str)) fun x8 YG=>
     if x8 then
      gy (aX YG ([93]:Str)) (fun e5 YF=>some (.bad e5,YF)) fun x9 Yz=>
      some (.ok (aj.mk 9 ([]:Str) (av.mk 0 false 0 ([]:Str) [] []) x9 []),Yz)
     else
      iA (dK YG ([123]:Str)) fun JX y13=>
      if JX then
       gy (aP y13) (fun e6 y15=>some (.bad e6,y15)) fun YA y14=>
       some (.ok YA,y14)
      else
       gy (gM y13 5) (fun e7 y17=>some (.bad e7,y17)) fun _ y16=>
       some (.ok (aj.mk 0 ([]:Str) (av.mk 0 false 0 ([]:Str) [] []) [] []),y16)
def nK (aD:ah→Option (iG ay aj × ah)) (aL:ah→Int→Option (iG ay aj × ah)) (aN:ah→Option (iG ay aj × ah)) (aO:ah→Option (iG ay aj × ah)) (aZ:ah→Option (iG ay aj × ah)) (aY:ah→Str→Option (iG ay aj × ah)) (aX:ah→Str→Option (iG ay (List aj) × ah)) (aP:ah→Option (iG ay aj × ah)) (kC:ah) (s1:Str):Option (iG ay aj × ah):=
 if s1 == ([110,117,108,108]:Str) then
  aA (oK (av.mk 0 false 0 ([]:Str) [] [])) fun x1=>
  some (.ok x1,kC)
 else
  aA (nJ s1) fun x2=>
  if x2 then
   aA (oK (av.mk 1 (s1 == ([116,114,117,101]:Str)) 0 ([]:Str) [] [])) fun x3=>
   some (.ok x3,kC)
  else
   iA (dK kC ([40]:Str)) fun x4 y1=>
   if x4 then
    gy (aX y1 ([41]:Str)) (fun e1 y3=>some (.bad e1,y3)) fun x5 y2=>
    some (.ok (aj.mk 5 s1 (av.mk 0 false 0 ([]:Str) [] []) x5 []),y2)
   else
    some (.ok (aj.mk 2 s1 (av.mk 0 false 0 ([]:Str) [] []) [] []),y1)
def jI (aD:ah→Option (iG ay aj × ah)) (pR:Str):Nat→List aj→ah→Option (iG ay (List aj) × ah)
 | 0,_,_=>none
 | dw + 1,cK,y2=>
  gy (aD y2) (fun e1 y4=>some (.bad e1,y4)) fun x2 y3=>
  aA (app cK [x2]) fun qc=>
  iA (dK y3 ([44]:Str)) fun x3 y5=>
  if !x3 then
   gy (fA y5 pR) (fun e2 y7=>some (.bad e2,y7)) fun _ y6=>
   some (.ok qc,y6)
  else
   jI aD pR dw qc y5
def nM (aD:ah→Option (iG ay aj × ah)) (aL:ah→Int→Option (iG ay aj × ah)) (aN:ah→Option (iG ay aj × ah)) (aO:ah→Option (iG ay aj × ah)) (aZ:ah→Option (iG ay aj × ah)) (aY:ah→Str→Option (iG ay aj × ah)) (aX:ah→Str→Option (iG ay (List aj) × ah)) (aP:ah→Option (iG ay aj × ah)) (kC:ah) (pR:Str):Option (iG ay (List aj) × ah):=
 iA (dK kC pR) fun x1 y1=>
 if x1 then
  some (.ok [],y1)
 else
  jI aD pR BIG [] y1
def iB (aD:ah→Option (iG ay aj × ah)):Nat→aj→ah→Option (iG ay aj × ah)
 | 0,_,_=>none
 | dw + 1,cK,y2=>
  gy (jm y2) (fun e1 y4=>some (.bad e1,y4)) fun x2 y3=>
  if (x2.kind != 1) && (x2.kind != 3) then
   gy (gM y3 5) (fun e2 y6=>some (.bad e2,y6)) fun _ y5=>
   gy (fA (ah.mk y5.ts (bI (y5.at_ + 1))) ([58]:Str)) (fun e3 y8=>some (.bad e3,y8)) fun _ y7=>
   aA (app cK.keys ([x2.text]:List Str)) fun x3=>
   gy (aD y7) (fun e4 YG=>some (.bad e4,YG)) fun x4 y9=>
   aA (app cK.args [x4]) fun x5=>
   iA (dK y9 ([44]:Str)) fun x6 Yz=>
   if !x6 then
    gy (fA Yz ([125]:Str)) (fun e5 y13=>some (.bad e5,y13)) fun _ YF=>
    some (.ok (aj.mk cK.kind cK.name cK.value x5 x3),YF)
   else
    iB aD dw (aj.mk cK.kind cK.name cK.value x5 x3) Yz
  else
   gy (fA (ah.mk y3.ts (bI (y3.at_ + 1))) ([58]:Str)) (fun e6 y15=>some (.bad e6,y15)) fun _ y14=>
   aA (app cK.keys ([x2.text]:List Str)) fun x7=>
   gy (aD y14) (fun e7 y17=>some (.bad e7,y17)) fun x8 y16=>
   aA (app cK.args [x8]) fun x9=>
   iA (dK y16 ([44]:Str)) fun JX y18=>
   if !JX then
    gy (fA y18 ([125]:Str)) (fun e8 y20=>some (.bad e8,y20)) fun _ y19=>
    some (.ok (aj.mk cK.kind cK.name cK.value x9 x7),y19)
   else
    iB aD dw (aj.mk cK.kind cK.name cK.value x9 x7) y18
def lF (aD:ah→Option (iG ay aj × ah)) (aL:ah→Int→Option (iG ay aj × ah)) (aN:ah→Option (iG ay aj × ah)) (aO:ah→Option (iG ay aj × ah)) (aZ:ah→Option (iG ay aj × ah)) (aY:ah→Str→Option (iG ay aj × ah)) (aX:ah→Str→Option (iG ay (List aj) × ah)) (aP:ah→Option (iG ay aj × ah)) (kC:ah):Option (iG ay aj × ah):=
 iA (dK kC ([125]:Str)) fun x1 y1=>
 if x1 then
  some (.ok (aj.mk 10 ([]:Str) (av.mk 0 false 0 ([]:Str) [] []) [] []),y1)
 else
  iB aD BIG (aj.mk 10 ([]:Str) (av.mk 0 false 0 ([]:Str) [] []) [] []) y1
mutual
def aM :Nat→ah→Option (iG ay aj × ah)
 | 0,_=>none
 | k + 1,fZ=>kG (aM k) (aU k) (bN k) (bU k) (cu k) (cO k) (bR k) (bK k) fZ
def aU :Nat→ah→Int→Option (iG ay aj × ah)
 | 0,_,_=>none
 | k + 1,fZ,V4=>jD (aM k) (aU k) (bN k) (bU k) (cu k) (cO k) (bR k) (bK k) fZ V4
def bN :Nat→ah→Option (iG ay aj × ah)
 | 0,_=>none
 | k + 1,fZ=>mP (aM k) (aU k) (bN k) (bU k) (cu k) (cO k) (bR k) (bK k) fZ
def bU :Nat→ah→Option (iG ay aj × ah)
 | 0,_=>none
 | k + 1,fZ=>mQ (aM k) (aU k) (bN k) (bU k) (cu k) (cO k) (bR k) (bK k) fZ
def cu :Nat→ah→Option (iG ay aj × ah)
 | 0,_=>none
 | k + 1,fZ=>nL (aM k) (aU k) (bN k) (bU k) (cu k) (cO k) (bR k) (bK k) fZ
def cO :Nat→ah→Str→Option (iG ay aj × ah)
 | 0,_,_=>none
 | k + 1,fZ,Jh=>nK (aM k) (aU k) (bN k) (bU k) (cu k) (cO k) (bR k) (bK k) fZ Jh
def bR :Nat→ah→Str→Option (iG ay (List aj) × ah)
 | 0,_,_=>none
 | k + 1,fZ,Cr=>nM (aM k) (aU k) (bN k) (bU k) (cu k) (cO k) (bR k) (bK k) fZ Cr
def bK :Nat→ah→Option (iG ay aj × ah)
 | 0,_=>none
 | k + 1,fZ=>lF (aM k) (aU k) (bN k) (bU k) (cu k) (cO k) (bR k) (bK k) fZ
end
def oI (fZ:ah):Option (iG ay aj × ah):=aM BIG fZ
def Ba (fZ:ah) (V4:Int):Option (iG ay aj × ah):=aU BIG fZ V4
def Es (fZ:ah):Option (iG ay aj × ah):=bN BIG fZ
def Et (fZ:ah):Option (iG ay aj × ah):=bU BIG fZ
def EY (fZ:ah):Option (iG ay aj × ah):=cu BIG fZ
def EX (fZ:ah) (Jh:Str):Option (iG ay aj × ah):=cO BIG fZ Jh
def EZ (fZ:ah) (Cr:Str):Option (iG ay (List aj) × ah):=bR BIG fZ Cr
def CQ (fZ:ah):Option (iG ay aj × ah):=bK BIG fZ
def zN (iO:List au):Option (aj × Int × Int):=
 gy (oI (ah.mk iO 0)) (fun f1 _=>some ((aj.mk 0 ([]:Str) (av.mk 0 false 0 ([]:Str) [] []) [] []),f1.at_,f1.code)) fun e1 r1=>
 some (e1,r1.at_,0)
def qb (jr:aj→Option Int) (e1:aj):Nat→Int→Int→Option Int
 | 0,_,_=>none
 | dw + 1,n1,x1=>
  if decide (x1 < (e1.args.length:Int)) then
   aA (idx e1.args x1) fun e2=>
   aA (jr e2) fun x2=>
   qb jr e1 dw (bI (n1 + x2)) (bI (x1 + 1))
  else
   some n1
def uL (jr:aj→Option Int) (e1:aj):Option Int:=
 qb jr e1 BIG 1 0
def j6 :Nat→aj→Option Int
 | 0,_=>none
 | k + 1,sU=>uL (j6 k) sU
def xQ (sU:aj):Option Int:=j6 BIG sU
def zM (v1:av):Option Bool:=
 some ((((((v1.kind == 0) && (!v1.lJ)) && (v1.mG == 0)) && (v1.nu == ([]:Str))) && ((v1.dW.length:Int) == 0)) && ((v1.keys.length:Int) == 0))
def lW (s1:Str):Option Bool:=
 aA (tZ s1) fun x1=>
 if x1 then
  aA (nJ s1) fun x2=>
  some (!x2)
 else
  some false
def uH (e1:aj):Option Bool:=
 if e1.kind == 2 then
  lW e1.name
 else
  if e1.kind == 3 then
   lW e1.name
  else
   if e1.kind == 5 then
    lW e1.name
   else
    if e1.kind == 6 then
     some ((e1.name == ([33]:Str)) || (e1.name == ([45]:Str)))
    else
     if e1.kind == 7 then
      aA (iU e1.name) fun x4=>
      some (decide (0 < x4))
     else
      some (e1.name == ([]:Str))
def uJ (e1:aj):Option Bool:=
 if e1.kind == 1 then
  some ((e1.args.length:Int) == 0)
 else
  if e1.kind == 2 then
   some ((e1.args.length:Int) == 0)
  else
   if e1.kind == 3 then
    some ((e1.args.length:Int) == 1)
   else
    if e1.kind == 6 then
     some ((e1.args.length:Int) == 1)
    else
     if e1.kind == 4 then
      some ((e1.args.length:Int) == 2)
     else
      if e1.kind == 7 then
       some ((e1.args.length:Int) == 2)
      else
       if e1.kind == 8 then
        some ((e1.args.length:Int) == 3)
       else
        some true
def gH (s1:List Str) (f1:Str→Option Bool):Nat→Int→Option Int
 | 0,_=>none
 | dw + 1,i1=>
  if decide (i1 < (s1.length:Int)) then
   aA (idx s1 i1) fun e1=>
   aA (f1 e1) fun x1=>
   if x1 then
    some i1
   else
    gH s1 f1 dw (bI (i1 + 1))
  else
   some (-1)
def je (s1:List Str) (f1:Str→Option Bool):Option Int:=
 gH s1 f1 BIG 0
def gI (s1:List Str) (f1:Str→Option Bool):Option Bool:=
 aA (je s1 f1) fun x1=>
 some (decide (0≤x1))
def jK (wm:Str):Option Bool:=
 some ((decide ((wm.length:Int) < 1)) || (decide (64 < (wm.length:Int))))
def uI (e1:aj):Option Bool:=
 if e1.kind != 10 then
  some ((e1.keys.length:Int) == 0)
 else
  if (e1.keys.length:Int) == (e1.args.length:Int) then
   aA (gI e1.keys jK) fun x1=>
   some (!x1)
  else
   some false
def su {β:Type} (go:β→av→Int→Option (Bool × β)) (v1:av) (dx:Int):Nat→β→Int→Option (Bool × β)
 | 0,_,_=>none
 | dw + 1,s1,i1=>
  if decide (i1 < (v1.dW.length:Int)) then
   aA (idx v1.dW i1) fun x1=>
   iA (go s1 x1 (bI (dx + 1))) fun b1 s2=>
   if !b1 then
    some (false,s2)
   else
    su go v1 dx dw s2 (bI (i1 + 1))
  else
   some (true,s1)
def xH {β:Type} (go:β→av→Int→Option (Bool × β)) (y:β→Int→av→Option (Bool × β)) (s1:β) (v1:av) (dx:Int):Option (Bool × β):=
 iA (y s1 dx v1) fun b1 s2=>
 if !b1 then
  some (false,s2)
 else
  su go v1 dx BIG s2 0
def nk {β:Type} (y:β→Int→av→Option (Bool × β)):Nat→β→av→Int→Option (Bool × β)
 | 0,_,_,_=>none
 | k + 1,s1,v1,dx=>xH (nk y k) y s1 v1 dx
def EP {β:Type} (y:β→Int→av→Option (Bool × β)) (s1:β) (v1:av) (dx:Int):Option (Bool × β):=nk y BIG s1 v1 dx
def xI (v1:av):Option Bool:=
 some ((((((v1.kind == 1) || (!v1.lJ)) && ((v1.kind == 2) || (v1.mG == 0))) && ((v1.kind == 3) || (v1.nu == ([]:Str)))) && (((v1.kind == 4) || (v1.kind == 5)) || ((v1.dW.length:Int) == 0))) && ((v1.kind == 5) || ((v1.keys.length:Int) == 0)))
def zP (c1:UInt8):Option Bool:=
 some ((decide (48≤(c1.toNat:Int))) && (decide ((c1.toNat:Int)≤57)))
def uX (s1:Str):Nat→Int→Option Int
 | 0,_=>none
 | dw + 1,n1=>
  aA (
    if decide (n1 < (s1.length:Int)) then
     aA (idx s1 n1) fun x1=>
     zP x1
    else
     some false) fun b1=>
  if b1 then
   uX s1 dw (bI (n1 + 1))
  else
   some n1
def yx (s1:Str):Option Int:=
 uX s1 BIG 0
def iM (c1:UInt8):Nat→Str→Option Str
 | 0,_=>none
 | dw + 1,s2=>
  aA (
    if decide (0 < (s2.length:Int)) then
     aA (idx s2 0) fun x1=>
     some ((x1.toNat:Int) == (c1.toNat:Int))
    else
     some false) fun b1=>
  if b1 then
   aA (sl s2 1 (s2.length:Int)) fun s3=>
   iM c1 dw s3
  else
   some s2
def strings_trimLeftByte (s1:Str) (c1:UInt8):Option Str:=
 iM c1 BIG s1
def mD (s1:Str) (zU:Str):Option Str:=
 if (s1 == ([]:Str)) || (zU == ([]:Str)) then
  some s1
 else
  aA (
    if (zU.length:Int) == 1 then
     aA (idx zU 0) fun x1=>
     some (decide ((x1.toNat:Int) < 128))
    else
     some false) fun b1=>
  if b1 then
   aA (idx zU 0) fun x2=>
   strings_trimLeftByte s1 x2
  else
   none
def cmp_isNaN_int (x1:Int):Option Bool:=
 some (x1 != x1)
def cmp_Compare_int (x1:Int) (y1:Int):Option Int:=
 aA (cmp_isNaN_int x1) fun Iw=>
 aA (cmp_isNaN_int y1) fun CU=>
 if Iw then
  if CU then
   some 0
  else
   some (-1)
 else
  if CU then
   some 1
  else
   if decide (x1 < y1) then
    some (-1)
   else
    if decide (y1 < x1) then
     some 1
    else
     some 0
def cmp_isNaN_string (x1:Str):Option Bool:=
 some (!(x1 == x1))
def mM (x1:Str) (y1:Str):Option Int:=
 aA (cmp_isNaN_string x1) fun Iw=>
 aA (cmp_isNaN_string y1) fun CU=>
 if Iw then
  if CU then
   some 0
  else
   some (-1)
 else
  if CU then
   some 1
  else
   if Go.Op.bytesLess x1 y1 then
    some (-1)
   else
    if !(Go.Op.bytesLess x1 y1 || x1 == y1) then
     some 1
    else
     some 0
def sN (Co:List Int):Nat→Int→Option Int
 | 0,_=>none
 | dw + 1,x1=>
  if decide (x1 < (Co.length:Int)) then
   aA (idx Co x1) fun UQ=>
   if UQ != 0 then
    some UQ
   else
    sN Co dw (bI (x1 + 1))
  else
   some 0
def yV (Co:List Int):Option Int:=
 sN Co BIG 0
def sI (a1:Str) (b1:Str):Option Int:=
 aA (mD a1 ([48]:Str)) fun x1=>
 aA (mD b1 ([48]:Str)) fun y1=>
 aA (cmp_Compare_int (x1.length:Int) (y1.length:Int)) fun x2=>
 aA (mM x1 y1) fun x3=>
 aA (cmp_Compare_int (a1.length:Int) (b1.length:Int)) fun x4=>
 yV ([x2,x3,x4]:List Int)
def qW (x1:UInt8):Option Bool:=
 some ((x1.toNat:Int) != (x1.toNat:Int))
def oU (x1:UInt8) (y1:UInt8):Option Int:=
 aA (qW x1) fun Iw=>
 aA (qW y1) fun CU=>
 if Iw then
  if CU then
   some 0
  else
   some (-1)
 else
  if CU then
   some 1
  else
   if decide ((x1.toNat:Int) < (y1.toNat:Int)) then
    some (-1)
   else
    if decide ((y1.toNat:Int) < (x1.toNat:Int)) then
     some 1
    else
     some 0
def kP :Nat→Str→Str→Option Int
 | 0,_,_=>none
 | dw + 1,a2,b2=>
  if (!(a2 == ([]:Str))) && (!(b2 == ([]:Str))) then
   aA (yx a2) fun n1=>
   aA (yx b2) fun m1=>
   if (decide (0 < n1)) && (decide (0 < m1)) then
    aA (sl a2 0 n1) fun x1=>
    aA (sl b2 0 m1) fun x2=>
    aA (sI x1 x2) fun c1=>
    if c1 != 0 then
     some c1
    else
     aA (sl a2 n1 (a2.length:Int)) fun a3=>
     aA (sl b2 m1 (b2.length:Int)) fun b3=>
     kP dw a3 b3
   else
    aA (idx a2 0) fun x3=>
    aA (idx b2 0) fun x4=>
    if (x3.toNat:Int) != (x4.toNat:Int) then
     aA (idx a2 0) fun x5=>
     aA (idx b2 0) fun x6=>
     oU x5 x6
    else
     aA (sl a2 1 (a2.length:Int)) fun a4=>
     aA (sl b2 1 (b2.length:Int)) fun b4=>
     kP dw a4 b4
  else
   cmp_Compare_int (a2.length:Int) (b2.length:Int)
def qp (a1:Str) (b1:Str):Option Int:=
 kP BIG a1 b1
def oG (v1:av):Nat→Int→Option Bool
 | 0,_=>none
 | dw + 1,i1=>
  if decide (i1 < (v1.keys.length:Int)) then
   aA (idx v1.keys i1) fun wm=>
   aA (
     if (decide ((wm.length:Int) < 1)) || (decide (64 < (wm.length:Int))) then
      some true
     else
      if decide (0 < i1) then
       aA (idx v1.keys (bI (i1 - 1))) fun e1=>
       aA (qp e1 wm) fun x1=>
       some (decide (0≤x1))
      else
       some false) fun b1=>
   if b1 then
    some false
   else
    oG v1 dw (bI (i1 + 1))
  else
   some true
def wF (v1:av):Option Bool:=
 if (v1.keys.length:Int) != (v1.dW.length:Int) then
  some false
 else
  oG v1 BIG 0
def yF (v1:av) (dx:Int):Option Int:=
 if decide (16 < dx) then
  some 13
 else
  aA (
    if (decide (v1.kind < 0)) || (decide (5 < v1.kind)) then
     some true
    else
     aA (xI v1) fun x1=>
     some (!x1)) fun b1=>
  if b1 then
   some 1
  else
   if (decide (v1.mG < (-9007199254740992))) || (decide (9007199254740992 < v1.mG)) then
    some 2
   else
    if ((decide (4096 < (v1.nu.length:Int))) || (decide (1024 < (v1.dW.length:Int)))) || (decide (1024 < (v1.keys.length:Int))) then
     some 3
    else
     aA (
       if v1.kind == 5 then
        aA (wF v1) fun x2=>
        some (!x2)
       else
        some false) fun b2=>
     if b2 then
      some 1
     else
      if (((v1.kind == 4) || (v1.kind == 5)) && ((v1.dW.length:Int) == 0)) && (dx == 16) then
       some 13
      else
       some 0
def kR (s1:Option Int) (dx:Int) (x1:av):Option (Bool × Option Int):=
 match s1 with
 | some _=>none
 | none=>
  aA (yF x1 dx) fun e1=>
  if !(e1 == 0) then
   some (false,some e1)
  else
   some (true,none)
def o7 (v1:av):Option Int:=
 iA (EP kR none v1 1) fun _ s1=>
 some (s1.getD 0)
def mJ (l1:List Str):Nat→Int→List (Str × Int)→Option Bool
 | 0,_,_=>none
 | dw + 1,x1,y1=>
  if decide (x1 < (l1.length:Int)) then
   aA (idx l1 x1) fun s1=>
   if decide (1 < (uO (vJ y1 s1 (bI ((uO y1 s1) + 1))) s1)) then
    some true
   else
    mJ l1 dw (bI (x1 + 1)) (vJ y1 s1 (bI ((uO y1 s1) + 1)))
  else
   some false
def p9 (l1:List Str):Option Bool:=
 mJ l1 BIG 0 []
def wO (e1:aj) (dx:Int):Option Int:=
 if decide (16 < dx) then
  some 13
 else
  aA (
    if (decide (e1.kind < 1)) || (decide (10 < e1.kind)) then
     some true
    else
     if e1.kind != 1 then
      aA (zM e1.value) fun x1=>
      some (!x1)
     else
      some false) fun b1=>
  aA (
    if b1 then
     some true
    else
     aA (uH e1) fun x2=>
     some (!x2)) fun b3=>
  aA (
    if b3 then
     some true
    else
     aA (uJ e1) fun x3=>
     some (!x3)) fun b4=>
  aA (
    if b4 then
     some true
    else
     aA (uI e1) fun x4=>
     some (!x4)) fun b5=>
  if b5 then
   some 1
  else
   aA (
     if e1.kind == 1 then
      aA (o7 e1.value) fun x5=>
      some (x5 != 0)
     else
      some false) fun b6=>
   if b6 then
    o7 e1.value
   else
    if decide (1024 < (e1.args.length:Int)) then
     some 3
    else
     aA (p9 e1.keys) fun x7=>
     if x7 then
      some 7
     else
      some 0
def p8 (jq:aj→Int→Option Int) (e1:aj) (dx:Int):Nat→Int→Option Int
 | 0,_=>none
 | dw + 1,x1=>
  if decide (x1 < (e1.args.length:Int)) then
   aA (idx e1.args x1) fun e2=>
   aA (jq e2 (bI (dx + 1))) fun f2=>
   if f2 != 0 then
    some f2
   else
    p8 jq e1 dx dw (bI (x1 + 1))
  else
   some 0
def uG (jq:aj→Int→Option Int) (e1:aj) (dx:Int):Option Int:=
 aA (wO e1 dx) fun f1=>
 if f1 != 0 then
  some f1
 else
  p8 jq e1 dx BIG 0
def j4 :Nat→aj→Int→Option Int
 | 0,_,_=>none
 | k + 1,sU,fM=>uG (j4 k) sU fM
def BL (sU:aj) (fM:Int):Option Int:=j4 BIG sU fM
def pF (e1:aj):Option Int:=
 aA (xQ e1) fun x1=>
 if decide (4096 < x1) then
  some 15
 else
  BL e1 1
def wP (iO:List au):Option (aj × Int × Int):=
 lq (zN iO) fun x1 n1 vo=>
 if vo != 0 then
  some ((aj.mk 0 ([]:Str) (av.mk 0 false 0 ([]:Str) [] []) [] []),n1,vo)
 else
  aA (pF x1) fun DC=>
  if DC != 0 then
   some ((aj.mk 0 ([]:Str) (av.mk 0 false 0 ([]:Str) [] []) [] []),0,DC)
  else
   some (x1,n1,0)
def xP (iO:List au) (n1:Int) (bJ:Str):Option Int:=
 if decide (n1 < (iO.length:Int)) then
  aA (idx iO n1) fun e1=>
  some e1.at_
 else
  some (bJ.length:Int)
def uK (bJ:Str):Option (aj × Int × Int):=
 lq (lY bJ) fun iO bO vo=>
 if vo != 0 then
  some ((aj.mk 0 ([]:Str) (av.mk 0 false 0 ([]:Str) [] []) [] []),bO,vo)
 else
  lq (wP iO) fun x1 n1 DC=>
  if DC != 0 then
   aA (xP iO n1 bJ) fun x2=>
   some ((aj.mk 0 ([]:Str) (av.mk 0 false 0 ([]:Str) [] []) [] []),x2,DC)
  else
   if decide (n1 < (iO.length:Int)) then
    aA (idx iO n1) fun e1=>
    some ((aj.mk 0 ([]:Str) (av.mk 0 false 0 ([]:Str) [] []) [] []),e1.at_,5)
   else
    some (x1,0,0)
def jR (jF:List aR) (text1:Str):Option (List aR):=
 if decide (0 < (text1.length:Int)) then app jF [(aR.mk text1 false (aj.mk 0 ([]:Str) (av.mk 0 false 0 ([]:Str) [] []) [] []))] else some jF
def jM (s1:Str):Nat→Int→List aR→Str→Option (List aR × Int × Int)
 | 0,_,_,_=>none
 | dw + 1,bO,jF,text1=>
  if decide (bO < (s1.length:Int)) then
   aA (sl s1 bO (s1.length:Int)) fun Dc=>
   aA (strings_HasPrefix Dc ([36,36]:Str)) fun b1=>
   if b1 then
    aA (app text1 [36]) fun Qd=>
    jM s1 dw (bI (bO + 2)) jF Qd
   else
    aA (strings_HasPrefix Dc ([36,123]:Str)) fun b2=>
    if b2 then
     aA (uV s1 (bI (bO + 2))) fun pR=>
     if decide (pR < 0) then
      some ([],bO,4)
     else
      aA (sl s1 (bI (bO + 2)) pR) fun x1=>
      lq (uK x1) fun e1 n1 vo=>
      if vo != 0 then
       some ([],(bI ((bI (bO + 2)) + n1)),vo)
      else
       aA (jR jF text1) fun OC=>
       aA (app OC [(aR.mk ([]:Str) true e1)]) fun OB=>
       jM s1 dw (bI (pR + 1)) OB []
    else
     aA (idx s1 bO) fun c1=>
     aA (app text1 [c1]) fun WR=>
     jM s1 dw (bI (bO + 1)) jF WR
  else
   aA (jR jF text1) fun Um=>
   some (Um,0,0)
def rH (s1:Str):Option (List aR × Int × Int):=
 if decide (4096 < (s1.length:Int)) then
  some ([],0,3)
 else
  jM s1 BIG 0 [] []
def jv (s1:Str):Option Int:=
 if s1 == ([]:Str) then
  some 1
 else
  lq (rH s1) fun x1 x2 e1=>
  some e1
def kS (s1:Str) (kF:Str):Option Str:=
 aA (jh s1 kF) fun x1=>
 if x1 then
  sl s1 (kF.length:Int) (s1.length:Int)
 else
  some s1
def strings_TrimPrefix (s1:Str) (kF:Str):Option Str:=
 kS s1 kF
def qw (s1:List (BitVec 64)) (c1:UInt8):Option (List (BitVec 64)):=
 aA (idx ([(s1.getD 0 0),(s1.getD 1 0),(s1.getD 2 0),(s1.getD 3 0)]:List (BitVec 64)) ((c1 / 64).toNat:Int)) fun e1=>
 aA (some (e1 &&& ~~~ ((1:BitVec 64) <<< (c1 % 64).toNat))) fun x1=>
 aA (idx ([(s1.getD 0 0),(s1.getD 1 0),(s1.getD 2 0),(s1.getD 3 0)]:List (BitVec 64)) ((c1 / 64).toNat:Int)) fun e2=>
 aA (some (List.set ([(s1.getD 0 0),(s1.getD 1 0),(s1.getD 2 0),(s1.getD 3 0)]:List (BitVec 64)) (Int.toNat ((c1 / 64).toNat:Int)) x1)) fun y1=>
 some ([(y1.getD 0 0),(y1.getD 1 0),(y1.getD 2 0),(y1.getD 3 0)]:List (BitVec 64))
def ug (Ot:Bool):Option (List (BitVec 64)):=
 if !Ot then
  aA (qw ([18446744073709551615,18446744073709551615,18446744073709551615,18446744073709551615]:List (BitVec 64)) 47) fun y1=>
  some ([(y1.getD 0 0),(y1.getD 1 0),(y1.getD 2 0),(y1.getD 3 0)]:List (BitVec 64))
 else
  some ([18446744073709551615,18446744073709551615,18446744073709551615,18446744073709551615]:List (BitVec 64))
def qx (s1:Str):Option (UInt8 × Int):=
 aA (
   if s1 == ([]:Str) then
    some true
   else
    aA (idx s1 0) fun x1=>
    some ((x1.toNat:Int) == 93)) fun b1=>
 aA (
   if b1 then
    some true
   else
    aA (idx s1 0) fun x2=>
    some ((x2.toNat:Int) == 45)) fun b2=>
 if b2 then
  some (0,0)
 else
  aA (idx s1 0) fun x3=>
  if (x3.toNat:Int) != 92 then
   aA (idx s1 0) fun x4=>
   some (x4,1)
  else
   if decide ((s1.length:Int) < 2) then
    some (0,0)
   else
    aA (idx s1 1) fun x5=>
    some (x5,2)
def lZ (s1:List (BitVec 64)) (c1:UInt8):Option (List (BitVec 64)):=
 aA (idx ([(s1.getD 0 0),(s1.getD 1 0),(s1.getD 2 0),(s1.getD 3 0)]:List (BitVec 64)) ((c1 / 64).toNat:Int)) fun e1=>
 aA (some (e1 ||| ((1:BitVec 64) <<< (c1 % 64).toNat))) fun x1=>
 aA (idx ([(s1.getD 0 0),(s1.getD 1 0),(s1.getD 2 0),(s1.getD 3 0)]:List (BitVec 64)) ((c1 / 64).toNat:Int)) fun e2=>
 aA (some (List.set ([(s1.getD 0 0),(s1.getD 1 0),(s1.getD 2 0),(s1.getD 3 0)]:List (BitVec 64)) (Int.toNat ((c1 / 64).toNat:Int)) x1)) fun y1=>
 some ([(y1.getD 0 0),(y1.getD 1 0),(y1.getD 2 0),(y1.getD 3 0)]:List (BitVec 64))
def oC (bO:Int) (n1:Int) (uS:UInt8) (n2:Int) (oO:Int→List (BitVec 64)→Option (List (BitVec 64) × Int)):Nat→Int→List (BitVec 64)→Option (List (BitVec 64) × Int)
 | 0,_,_=>none
 | xW + 1,c1,qc=>
  if decide (c1≤(uS.toNat:Int)) then
   aA (lZ ([(qc.getD 0 0),(qc.getD 1 0),(qc.getD 2 0),(qc.getD 3 0)]:List (BitVec 64)) (Ft.byteOf c1)) fun y1=>
   oC bO n1 uS n2 oO xW (bI (c1 + 1)) ([(y1.getD 0 0),(y1.getD 1 0),(y1.getD 2 0),(y1.getD 3 0)]:List (BitVec 64))
  else
   oO (bI ((bI (bO + n1)) + (bI (1 + n2)))) ([(qc.getD 0 0),(qc.getD 1 0),(qc.getD 2 0),(qc.getD 3 0)]:List (BitVec 64))
def oz (bO:Int) (lQ:UInt8) (n1:Int) (oO:Int→List (BitVec 64)→Option (List (BitVec 64) × Int)):Nat→Int→List (BitVec 64)→Option (List (BitVec 64) × Int)
 | 0,_,_=>none
 | kk3 + 1,c2,rY=>
  if decide (c2≤(lQ.toNat:Int)) then
   aA (lZ ([(rY.getD 0 0),(rY.getD 1 0),(rY.getD 2 0),(rY.getD 3 0)]:List (BitVec 64)) (Ft.byteOf c2)) fun y2=>
   oz bO lQ n1 oO kk3 (bI (c2 + 1)) ([(y2.getD 0 0),(y2.getD 1 0),(y2.getD 2 0),(y2.getD 3 0)]:List (BitVec 64))
  else
   oO (bI (bO + n1)) ([(rY.getD 0 0),(rY.getD 1 0),(rY.getD 2 0),(rY.getD 3 0)]:List (BitVec 64))
def iY (s1:Str):Nat→Int→List (BitVec 64)→Option (List (BitVec 64) × Int)
 | 0,_,_=>none
 | dw + 1,bO,cK=>
  aA (
    if bO == 1 then
     some true
    else
     if decide (bO < (s1.length:Int)) then
      aA (idx s1 bO) fun x1=>
      some ((x1.toNat:Int) != 93)
     else
      some false) fun b1=>
  if b1 then
   aA (sl s1 bO (s1.length:Int)) fun x2=>
   iA (qx x2) fun lQ n1=>
   if n1 == 0 then
    some (([(cK.getD 0 0),(cK.getD 1 0),(cK.getD 2 0),(cK.getD 3 0)]:List (BitVec 64)),0)
   else
    aA (
      if decide ((bI (bO + n1)) < (s1.length:Int)) then
       aA (idx s1 (bI (bO + n1))) fun x3=>
       some ((x3.toNat:Int) == 45)
      else
       some false) fun b3=>
    if b3 then
     aA (sl s1 (bI ((bI (bO + n1)) + 1)) (s1.length:Int)) fun x4=>
     iA (qx x4) fun uS n2=>
     if (n2 == 0) || (decide ((uS.toNat:Int) < (lQ.toNat:Int))) then
      some (([(cK.getD 0 0),(cK.getD 1 0),(cK.getD 2 0),(cK.getD 3 0)]:List (BitVec 64)),0)
     else
      oC bO n1 uS n2 (iY s1 dw) BIG (lQ.toNat:Int) ([(cK.getD 0 0),(cK.getD 1 0),(cK.getD 2 0),(cK.getD 3 0)]:List (BitVec 64))
    else
     oz bO lQ n1 (iY s1 dw) BIG (lQ.toNat:Int) ([(cK.getD 0 0),(cK.getD 1 0),(cK.getD 2 0),(cK.getD 3 0)]:List (BitVec 64))
  else
   if decide ((s1.length:Int)≤bO) then
    some (([(cK.getD 0 0),(cK.getD 1 0),(cK.getD 2 0),(cK.getD 3 0)]:List (BitVec 64)),0)
   else
    aA (qw ([(cK.getD 0 0),(cK.getD 1 0),(cK.getD 2 0),(cK.getD 3 0)]:List (BitVec 64)) 47) fun y3=>
    some (([(y3.getD 0 0),(y3.getD 1 0),(y3.getD 2 0),(y3.getD 3 0)]:List (BitVec 64)),(bI (bO + 1)))
def BU (s1:Str):Option (List (BitVec 64) × Int):=
 iY s1 BIG 1 ([0,0,0,0]:List (BitVec 64))
def rM (c1:UInt8):Option dD:=
 aA (lZ ([0,0,0,0]:List (BitVec 64)) c1) fun y1=>
 some (dD.mk ([(y1.getD 0 0),(y1.getD 1 0),(y1.getD 2 0),(y1.getD 3 0)]:List (BitVec 64)) false true c1)
def vS (p1:Str):Option (dD × Int):=
 aA (idx p1 0) fun x1=>
 if (x1.toNat:Int) == 42 then
  aA (
    if decide (1 < (p1.length:Int)) then
     aA (idx p1 1) fun x2=>
     some ((x2.toNat:Int) == 42)
    else
     some false) fun b1=>
  if b1 then
   aA (ug true) fun x3=>
   some ((dD.mk ([(x3.getD 0 0),(x3.getD 1 0),(x3.getD 2 0),(x3.getD 3 0)]:List (BitVec 64)) true false 0),2)
  else
   aA (ug false) fun x4=>
   some ((dD.mk ([(x4.getD 0 0),(x4.getD 1 0),(x4.getD 2 0),(x4.getD 3 0)]:List (BitVec 64)) true false 0),1)
 else
  if (x1.toNat:Int) == 63 then
   aA (ug false) fun x5=>
   some ((dD.mk ([(x5.getD 0 0),(x5.getD 1 0),(x5.getD 2 0),(x5.getD 3 0)]:List (BitVec 64)) false false 0),1)
  else
   if (x1.toNat:Int) == 91 then
    iA (BU p1) fun x6 n1=>
    some ((dD.mk ([(x6.getD 0 0),(x6.getD 1 0),(x6.getD 2 0),(x6.getD 3 0)]:List (BitVec 64)) false false 0),n1)
   else
    if (x1.toNat:Int) == 92 then
     if decide ((p1.length:Int) < 2) then
      some ((dD.mk ([0,0,0,0]:List (BitVec 64)) false false 0),0)
     else
      aA (idx p1 1) fun x7=>
      aA (rM x7) fun x8=>
      some (x8,2)
    else
     aA (idx p1 0) fun x9=>
     aA (rM x9) fun JX=>
     some (JX,1)
def mg :Nat→Str→List dD→Option (List dD × Int)
 | 0,_,_=>none
 | dw + 1,p2,l1=>
  if !(p2 == ([]:Str)) then
   iA (vS p2) fun x1 n1=>
   if n1 == 0 then
    some ([],5)
   else
    aA (app l1 [x1]) fun l2=>
    aA (sl p2 n1 (p2.length:Int)) fun p3=>
    mg dw p3 l2
  else
   some (l1,0)
def BS (p1:Str):Option (List dD × Int):=
 if decide (4096 < (p1.length:Int)) then
  some ([],3)
 else
  mg BIG p1 []
def vT (F5:Str):Option Int:=
 iA (BS F5) fun x1 e1=>
 some e1
def lH (c1:bF):Nat→Int→Option Int
 | 0,_=>none
 | xW + 1,x2=>
  if decide (x2 < (c1.files.length:Int)) then
   aA (idx c1.files x2) fun s2=>
   aA (strings_TrimPrefix s2 ([33]:Str)) fun x3=>
   aA (vT x3) fun e3=>
   if e3 != 0 then
    some e3
   else
    lH c1 xW (bI (x2 + 1))
  else
   some 0
def lI (c1:bF):Nat→Int→Option Int
 | 0,_=>none
 | dw + 1,x1=>
  if decide (x1 < (c1.restore.length:Int)) then
   aA (idx c1.restore x1) fun s1=>
   aA (jv s1) fun e2=>
   if e2 != 0 then
    some e2
   else
    lI c1 dw (bI (x1 + 1))
  else
   lH c1 BIG 0
def oV (c1:bF):Option Int:=
 aA (jv c1.key) fun e1=>
 if e1 != 0 then
  some e1
 else
  if (decide (1024 < (c1.restore.length:Int))) || (decide (1024 < (c1.files.length:Int))) then
   some 3
  else
   lI c1 BIG 0
def tu (l:List aR):Bool:=
 match l.getLast? with
 | some p=>p.Uy
 | none=>true
def uw (l:List aR):Str:=
 match l.getLast? with
 | some p=>p.text
 | none=>[]
def zC (l:List aR) (t:Str):List aR:=
 match l.getLast? with
 | some p=>l.dropLast ++ [aR.mk t p.Uy p.expr]
 | none=>l
def yI (l1:List aR) (c1:UInt8):Option (List aR):=
 if l1.length≤Fy then
  if ((l1.length:Int) == 0) || tu l1 then
   app l1 [(aR.mk [c1] false (aj.mk 0 ([]:Str) (av.mk 0 false 0 ([]:Str) [] []) [] []))]
  else
   aA (app (uw l1) [c1]) fun t1=>
   some (zC l1 t1)
 else
  none
def ou (s1:Str):Nat→Int→Option Int
 | 0,_=>none
 | dw + 1,at2=>
  aA (
    if decide (at2 < (s1.length:Int)) then
     aA (idx s1 at2) fun x1=>
     some ((x1.toNat:Int) != 34)
    else
     some false) fun b1=>
  if b1 then
   aA (idx s1 at2) fun x2=>
   if (x2.toNat:Int) == 92 then
    ou s1 dw (bI ((bI (at2 + 1)) + 1))
   else
    ou s1 dw (bI (at2 + 1))
  else
   some (bI (at2 + 1))
def BH (s1:Str) (bO:Int):Option Int:=
 ou s1 BIG (bI (bO + 1))
def ji (s1:Str):Nat→Int→Int→Option Int
 | 0,_,_=>none
 | dw + 1,at2,eU=>
  if decide (at2 < (s1.length:Int)) then
   aA (idx s1 at2) fun x1=>
   if (x1.toNat:Int) == 34 then
    aA (BH s1 at2) fun at3=>
    ji s1 dw at3 eU
   else
    if (x1.toNat:Int) == 123 then
     ji s1 dw (bI (at2 + 1)) (bI (eU + 1))
    else
     if (x1.toNat:Int) == 125 then
      if eU == 0 then
       some at2
      else
       ji s1 dw (bI (at2 + 1)) (bI (eU - 1))
     else
      ji s1 dw (bI (at2 + 1)) eU
  else
   some (-1)
def zD (s1:Str) (bO:Int):Option Int:=
 ji s1 BIG bO 0
def mI (bJ:Str):Nat→Int→Bool→Option Int
 | 0,_,_=>none
 | dw + 1,at2,wY=>
  aA (
    if decide (at2 < (bJ.length:Int)) then
     aA (idx bJ at2) fun x1=>
     some ((x1.toNat:Int) != 10)
    else
     some false) fun b1=>
  aA (
    if b1 then
     aA (
       if wY then
        some true
       else
        aA (idx bJ at2) fun x2=>
        some ((x2.toNat:Int) == 32)) fun b3=>
     aA (
       if b3 then
        some true
       else
        aA (idx bJ at2) fun x3=>
        some ((x3.toNat:Int) == 9)) fun b4=>
     if b4 then
      some true
     else
      aA (idx bJ at2) fun x4=>
      some ((x4.toNat:Int) == 35)
    else
     some false) fun b2=>
  if b2 then
   aA (
     if wY then
      some true
     else
      aA (idx bJ at2) fun x5=>
      some ((x5.toNat:Int) == 35)) fun b6=>
   mI bJ dw (bI (at2 + 1)) b6
  else
   some at2
def nG (bJ:Str) (bO:Int):Option Int:=
 mI bJ BIG bO false
def m_ (c1:UInt8):Option Bool:=
 some ((decide (48≤(c1.toNat:Int))) && (decide ((c1.toNat:Int)≤57)))
def qm (bJ:Str) (bO:Int):Nat→Int→Option Int
 | 0,_=>none
 | dw + 1,n1=>
  aA (
    if decide ((bI (bO + n1)) < (bJ.length:Int)) then
     aA (idx bJ (bI (bO + n1))) fun x1=>
     m_ x1
    else
     some false) fun b1=>
  if b1 then
   qm bJ bO dw (bI (n1 + 1))
  else
   some n1
def yN (bJ:Str) (bO:Int):Option Int:=
 qm bJ bO BIG 0
def vN (c1:UInt8):Option Bool:=
 some ((((decide (97≤(c1.toNat:Int))) && (decide ((c1.toNat:Int)≤122))) || ((decide (65≤(c1.toNat:Int))) && (decide ((c1.toNat:Int)≤90)))) || ((c1.toNat:Int) == 95))
def tX (bJ:Str) (bO:Int):Nat→Int→Option Int
 | 0,_=>none
 | dw + 1,n1=>
  aA (
    if decide ((bI (bO + n1)) < (bJ.length:Int)) then
     aA (idx bJ (bI (bO + n1))) fun x1=>
     aA (vN x1) fun x2=>
     if x2 then
      some true
     else
      aA (idx bJ (bI (bO + n1))) fun x3=>
      m_ x3
    else
     some false) fun b1=>
  if b1 then
   tX bJ bO dw (bI (n1 + 1))
  else
   some n1
def AU (bJ:Str) (bO:Int):Option Int:=
 tX bJ bO BIG 0
def qK (s1:Str):Nat→Int→Int→Option (Int × Bool)
 | 0,_,_=>none
 | dw + 1,n1,i1=>
  if decide (i1 < (s1.length:Int)) then
   aA (idx s1 i1) fun x2=>
   aA (m_ x2) fun x3=>
   if !x3 then
    some (0,false)
   else
    aA (idx s1 i1) fun x4=>
    qK s1 dw (bI ((bI ((bI (10 * n1)) + (x4.toNat:Int))) - 48)) (bI (i1 + 1))
  else
   some (n1,(decide (n1≤9007199254740992)))
def wh (s1:Str):Option (Int × Bool):=
 aA (
   if (s1 == ([]:Str)) || (decide (16 < (s1.length:Int))) then
    some true
   else
    if decide (1 < (s1.length:Int)) then
     aA (idx s1 0) fun x1=>
     some ((x1.toNat:Int) == 48)
    else
     some false) fun b1=>
 if b1 then
  some (0,false)
 else
  qK s1 BIG 0 0
def yM (bJ:Str) (bO:Int):Option (au × Int × Int):=
 aA (yN bJ bO) fun n1=>
 aA (AU bJ bO) fun x1=>
 aA (
   if decide (n1 < x1) then
    some true
   else
    if decide (1 < n1) then
     aA (idx bJ bO) fun x2=>
     some ((x2.toNat:Int) == 48)
    else
     some false) fun b1=>
 if b1 then
  some ((au.mk 0 ([]:Str) 0),0,5)
 else
  aA (sl bJ bO (bI (bO + n1))) fun x3=>
  iA (wh x3) fun x4 ok1=>
  if !ok1 then
   some ((au.mk 0 ([]:Str) 0),0,2)
  else
   aA (sl bJ bO (bI (bO + n1))) fun x5=>
   some ((au.mk 2 x5 0),n1,0)
def Ec (c1:UInt8):Option Int:=
 aA (m_ c1) fun x1=>
 if x1 then
  some (bI ((c1.toNat:Int) - 48))
 else
  if (decide (97≤(c1.toNat:Int))) && (decide ((c1.toNat:Int)≤102)) then
   some (bI ((c1.toNat:Int) - 87))
  else
   if (decide (65≤(c1.toNat:Int))) && (decide ((c1.toNat:Int)≤70)) then
    some (bI ((c1.toNat:Int) - 55))
   else
    some (-1)
def jZ (bJ:Str) (bO:Int):Nat→Int→Int→Option (UInt8 × Int × Int)
 | 0,_,_=>none
 | dw + 1,n1,i1=>
  if decide (i1 < (bI (bO + 4))) then
   if decide ((bJ.length:Int)≤i1) then
    some (0,0,4)
   else
    aA (idx bJ i1) fun x1=>
    aA (Ec x1) fun x2=>
    if decide (x2 < 0) then
     some (0,0,5)
    else
     aA (idx bJ i1) fun x3=>
     aA (Ec x3) fun x4=>
     jZ bJ bO dw (bI ((bI (16 * n1)) + x4)) (bI (i1 + 1))
  else
   some ((Ft.byteOf n1),4,0)
def wK (bJ:Str) (bO:Int):Option (UInt8 × Int × Int):=
 jZ bJ bO BIG 0 (bI (bO + 2))
def l7 (bJ:Str) (bO:Int):Option (UInt8 × Int × Int):=
 aA (idx bJ bO) fun x1=>
 if decide ((x1.toNat:Int) < 32) then
  some (0,0,5)
 else
  aA (idx bJ bO) fun x2=>
  if (x2.toNat:Int) != 92 then
   aA (idx bJ bO) fun x3=>
   some (x3,1,0)
  else
   if decide ((bJ.length:Int)≤(bI (bO + 1))) then
    some (0,0,4)
   else
    aA (idx bJ (bI (bO + 1))) fun x4=>
    if (x4.toNat:Int) == 34 then
     aA (idx bJ (bI (bO + 1))) fun x5=>
     some (x5,2,0)
    else
     if (x4.toNat:Int) == 92 then
      aA (idx bJ (bI (bO + 1))) fun x6=>
      some (x6,2,0)
     else
      if (x4.toNat:Int) == 110 then
       some (10,2,0)
      else
       if (x4.toNat:Int) == 116 then
        some (9,2,0)
       else
        if (x4.toNat:Int) == 120 then
         wK bJ bO
        else
         some (0,0,5)
def tY (bJ:Str) (bO:Int):Nat→List UInt8→Int→Option (au × Int × Int)
 | 0,_,_=>none
 | dw + 1,b1,i1=>
  if decide (i1 < (bJ.length:Int)) then
   aA (idx bJ i1) fun x1=>
   if (x1.toNat:Int) == 34 then
    if decide (4096 < (b1.length:Int)) then
     some ((au.mk 0 ([]:Str) 0),0,3)
    else
     some ((au.mk 3 b1 0),(bI ((bI (i1 + 1)) - bO)),0)
   else
    lq (l7 bJ i1) fun c1 n1 e1=>
    if e1 != 0 then
     some ((au.mk 0 ([]:Str) 0),0,e1)
    else
     aA (app b1 ([c1]:List UInt8)) fun b2=>
     tY bJ bO dw b2 (bI (i1 + n1))
  else
   some ((au.mk 0 ([]:Str) 0),0,4)
def Dh (bJ:Str) (bO:Int):Option (au × Int × Int):=
 tY bJ bO BIG [] (bI (bO + 1))
def gJ (bJ:Str) (bO:Int):Nat→Int→Option Int
 | 0,_=>none
 | xW + 1,i2=>
  if decide (i2 < 19) then
   aA (idx bJ bO) fun x3=>
   aA (idx ([60,62,43,45,42,47,37,33,63,58,46,44,61,40,41,91,93,123,125]:Str) i2) fun x4=>
   if (x3.toNat:Int) == (x4.toNat:Int) then
    some 1
   else
    gJ bJ bO xW (bI (i2 + 1))
  else
   some 0
def gq (bJ:Str) (bO:Int):Nat→Int→Option Int
 | 0,_=>none
 | dw + 1,i1=>
  if decide (i1 < 12) then
   aA (
     if decide ((bI (bO + 2))≤(bJ.length:Int)) then
      aA (sl bJ bO (bI (bO + 2))) fun x1=>
      aA (sl ([124,124,38,38,61,61,33,61,60,61,62,61]:Str) i1 (bI (i1 + 2))) fun x2=>
      some (x1 == x2)
     else
      some false) fun b1=>
   if b1 then
    some 2
   else
    gq bJ bO dw (bI (i1 + 2))
  else
   gJ bJ bO BIG 0
def uE (bJ:Str) (bO:Int):Option Int:=
 gq bJ bO BIG 0
def AV (bJ:Str) (bO:Int):Option (au × Int × Int):=
 aA (idx bJ bO) fun x1=>
 aA (m_ x1) fun x2=>
 if x2 then
  yM bJ bO
 else
  aA (idx bJ bO) fun x6=>
  if (x6.toNat:Int) == 34 then
   Dh bJ bO
  else
   aA (AU bJ bO) fun n1=>
   if decide (0 < n1) then
    if decide (64 < n1) then
     some ((au.mk 0 ([]:Str) 0),0,3)
    else
     aA (sl bJ bO (bI (bO + n1))) fun JX=>
     some ((au.mk 1 JX 0),n1,0)
   else
    aA (uE bJ bO) fun n2=>
    if n2 == 0 then
     some ((au.mk 0 ([]:Str) 0),0,5)
    else
     aA (sl bJ bO (bI (bO + n2))) fun YA=>
     some ((au.mk 4 YA 0),n2,0)
def pq (eU:Int) (t1:au):Option Int:=
 if (t1.kind == 4) && ((t1.text == ([40]:Str)) || (t1.text == ([91]:Str))) then
  some (bI (eU + 1))
 else
  if ((t1.kind == 4) && ((t1.text == ([41]:Str)) || (t1.text == ([93]:Str)))) && (decide (0 < eU)) then
   some (bI (eU - 1))
  else
   some eU
def jW (bJ:Str):Nat→List au→Int→Int→Option (List au × Int × Int)
 | 0,_,_,_=>none
 | dw + 1,cK,eU,at2=>
  if decide (at2 < (bJ.length:Int)) then
   aA (idx bJ at2) fun x1=>
   if (x1.toNat:Int) != 10 then
    lq (AV bJ at2) fun x2 wm e1=>
    if e1 != 0 then
     some ([],at2,e1)
    else
     aA (
       if x2.kind != 5 then
        some true
       else
        if eU == 0 then
         if (cK.length:Int) == 0 then
          some true
         else
          aA (idx cK (bI ((cK.length:Int) - 1))) fun e2=>
          some (e2.kind != 5)
        else
         some false) fun b1=>
     if b1 then
      aA (app cK [(au.mk x2.kind x2.text at2)]) fun qc=>
      aA (pq eU (au.mk x2.kind x2.text at2)) fun KJ=>
      aA (nG bJ (bI (at2 + wm))) fun at3=>
      jW bJ dw qc KJ at3
     else
      aA (pq eU (au.mk x2.kind x2.text at2)) fun Xr=>
      aA (nG bJ (bI (at2 + wm))) fun at4=>
      jW bJ dw cK Xr at4
   else
    aA (
      if (5:Int) != 5 then
       some true
      else
       if eU == 0 then
        if (cK.length:Int) == 0 then
         some true
        else
         aA (idx cK (bI ((cK.length:Int) - 1))) fun e3=>
         some (e3.kind != 5)
       else
        some false) fun b4=>
    if b4 then
     aA (app cK [(au.mk 5 ([]:Str) at2)]) fun rY=>
     aA (pq eU (au.mk 5 ([]:Str) at2)) fun Xq=>
     aA (nG bJ (bI (at2 + 1))) fun at5=>
     jW bJ dw rY Xq at5
    else
     aA (pq eU (au.mk 5 ([]:Str) at2)) fun Xp=>
     aA (nG bJ (bI (at2 + 1))) fun at6=>
     jW bJ dw cK Xp at6
  else
   some (cK,0,0)
def qJ (bJ:Str):Option (List au × Int × Int):=
 if decide (65536 < (bJ.length:Int)) then
  some ([],0,3)
 else
  aA (nG bJ 0) fun bO=>
  jW bJ BIG [] 0 bO
def oH (iO:List au) (bO:Int) (s1:Str):Option Bool:=
 aA (
   if decide (bO < (iO.length:Int)) then
    aA (idx iO bO) fun e1=>
    some (e1.kind == 4)
   else
    some false) fun b1=>
 if b1 then
  aA (idx iO bO) fun e2=>
  some (e2.text == s1)
 else
  some false
def qI (v1:av):Option aj:=
 some (aj.mk 1 ([]:Str) v1 [] [])
def wL (s1:Str):Nat→Int→Option Bool
 | 0,_=>none
 | dw + 1,i1=>
  if decide (i1 < (s1.length:Int)) then
   aA (idx s1 i1) fun x1=>
   aA (vN x1) fun x2=>
   aA (
     if !x2 then
      if i1 == 0 then
       some true
      else
       aA (idx s1 i1) fun x3=>
       aA (m_ x3) fun x4=>
       some (!x4)
     else
      some false) fun b1=>
   if b1 then
    some false
   else
    wL s1 dw (bI (i1 + 1))
  else
   some ((decide (1≤(s1.length:Int))) && (decide ((s1.length:Int)≤64)))
def AZ (s1:Str):Option Bool:=
 wL s1 BIG 0
def ql (s1:Str):Option Bool:=
 aA (AZ s1) fun x1=>
 some (((x1 && (!(s1 == ([116,114,117,101]:Str)))) && (!(s1 == ([102,97,108,115,101]:Str)))) && (!(s1 == ([110,117,108,108]:Str))))
def FU (t1:au):Option Bool:=
 aA (
   if t1.kind == 1 then
    AZ t1.text
   else
    some false) fun b1=>
 some (b1 || ((t1.kind == 3) && (decide ((t1.text.length:Int)≤4096))))
def kD (iO:List au) (bO:Int):Option Int:=
 if decide ((iO.length:Int)≤bO) then
  some 4
 else
  some 5
def rA (op1:Str):Option Int:=
 if op1 == ([124,124]:Str) then
  some 2
 else
  if op1 == ([38,38]:Str) then
   some 3
  else
   if op1 == ([61,61]:Str) then
    some 4
   else
    if op1 == ([33,61]:Str) then
     some 4
    else
     if op1 == ([60]:Str) then
      some 4
     else
      if op1 == ([60,61]:Str) then
       some 4
      else
       if op1 == ([62]:Str) then
        some 4
       else
        if op1 == ([62,61]:Str) then
         some 4
        else
         if op1 == ([43]:Str) then
          some 5
         else
          if op1 == ([45]:Str) then
           some 5
          else
           if op1 == ([42]:Str) then
            some 6
           else
            if op1 == ([47]:Str) then
             some 6
            else
             if op1 == ([37]:Str) then
              some 6
             else
              some 0
def sV (aW:List au→Int→Option (aj × Int × Int)) (bB:List au→Int→Int→Option (aj × Int × Int)) (dG:List au→Int→Option (aj × Int × Int)) (dH:List au→Int→Option (aj × Int × Int)) (dQ:List au→Int→Option (aj × Int × Int)) (dP:List au→Int→Option (aj × Int × Int)) (dM:List au→Int→Str→Bool→Option (List aj × List Str × Int × Int)) (bV:List au→Int→Option (aj × Int × Int)) (iO:List au) (bO:Int):Option (aj × Int × Int):=
 lq (bB iO bO 2) fun x1 at2 e1=>
 aA (
   if e1 != 0 then
    some true
   else
    aA (oH iO at2 ([63]:Str)) fun x2=>
    some (!x2)) fun b1=>
 if b1 then
  some (x1,at2,e1)
 else
  lq (aW iO (bI (at2 + 1))) fun x3 at3 e2=>
  if e2 != 0 then
   some ((aj.mk 0 ([]:Str) (av.mk 0 false 0 ([]:Str) [] []) [] []),at3,e2)
  else
   aA (oH iO at3 ([58]:Str)) fun x4=>
   if !x4 then
    aA (kD iO at3) fun x5=>
    some ((aj.mk 0 ([]:Str) (av.mk 0 false 0 ([]:Str) [] []) [] []),at3,x5)
   else
    lq (aW iO (bI (at3 + 1))) fun x6 at4 e3=>
    some ((aj.mk 8 ([]:Str) (av.mk 0 false 0 ([]:Str) [] []) [x1,x3,x6] []),at4,e3)
def jB (bB:List au→Int→Int→Option (aj × Int × Int)) (iO:List au) (kM:Int):Nat→Int→Int→Int→aj→Option (aj × Int × Int)
 | 0,_,_,_,_=>none
 | dw + 1,at3,e2,n1,xD=>
  aA (
    if (e2 == 0) && (decide (at3 < (iO.length:Int))) then
     aA (idx iO at3) fun e3=>
     some (e3.kind == 4)
    else
     some false) fun b1=>
  aA (
    if b1 then
     aA (idx iO at3) fun e4=>
     aA (rA e4.text) fun x5=>
     some (x5 == kM)
    else
     some false) fun b2=>
  if b2 && ((n1 == 0) || (kM != 4)) then
   lq (bB iO (bI (at3 + 1)) (bI (kM + 1))) fun x6 g_ f1=>
   aA (idx iO at3) fun e5=>
   jB bB iO kM dw g_ f1 (bI (n1 + 1)) (aj.mk 7 e5.text (av.mk 0 false 0 ([]:Str) [] []) [xD,x6] [])
  else
   some (xD,at3,e2)
def pY (aW:List au→Int→Option (aj × Int × Int)) (bB:List au→Int→Int→Option (aj × Int × Int)) (dG:List au→Int→Option (aj × Int × Int)) (dH:List au→Int→Option (aj × Int × Int)) (dQ:List au→Int→Option (aj × Int × Int)) (dP:List au→Int→Option (aj × Int × Int)) (dM:List au→Int→Str→Bool→Option (List aj × List Str × Int × Int)) (bV:List au→Int→Option (aj × Int × Int)) (iO:List au) (bO:Int) (kM:Int):Option (aj × Int × Int):=
 if kM == 7 then
  dG iO bO
 else
  lq (bB iO bO (bI (kM + 1))) fun x4 at2 e1=>
  jB bB iO kM BIG at2 e1 0 x4
def zF (aW:List au→Int→Option (aj × Int × Int)) (bB:List au→Int→Int→Option (aj × Int × Int)) (dG:List au→Int→Option (aj × Int × Int)) (dH:List au→Int→Option (aj × Int × Int)) (dQ:List au→Int→Option (aj × Int × Int)) (dP:List au→Int→Option (aj × Int × Int)) (dM:List au→Int→Str→Bool→Option (List aj × List Str × Int × Int)) (bV:List au→Int→Option (aj × Int × Int)) (iO:List au) (bO:Int):Option (aj × Int × Int):=
 aA (oH iO bO ([33]:Str)) fun x1=>
 aA (
   if !x1 then
    aA (oH iO bO ([45]:Str)) fun x2=>
    some (!x2)
   else
    some false) fun b1=>
 if b1 then
  dH iO bO
 else
  lq (dG iO (bI (bO + 1))) fun x6 g_ e1=>
  aA (idx iO bO) fun e2=>
  some ((aj.mk 6 e2.text (av.mk 0 false 0 ([]:Str) [] []) [x6] []),g_,e1)
def lV (aW:List au→Int→Option (aj × Int × Int)) (iO:List au) (e1:Int):Nat→Int→aj→Option (aj × Int × Int)
 | 0,_,_=>none
 | dw + 1,at3,x2=>
  aA (
    if e1 == 0 then
     aA (oH iO at3 ([46]:Str)) fun x3=>
     if x3 then
      some true
     else
      oH iO at3 ([91]:Str)
    else
     some false) fun b1=>
  if b1 then
   aA (oH iO at3 ([46]:Str)) fun x5=>
   if x5 then
    aA (
      if decide ((iO.length:Int)≤(bI (at3 + 1))) then
       some true
      else
       aA (idx iO (bI (at3 + 1))) fun e2=>
       some (e2.kind != 1)) fun b3=>
    aA (
      if b3 then
       some true
      else
       aA (idx iO (bI (at3 + 1))) fun e3=>
       aA (ql e3.text) fun x6=>
       some (!x6)) fun b4=>
    if b4 then
     aA (kD iO (bI (at3 + 1))) fun x7=>
     some ((aj.mk 0 ([]:Str) (av.mk 0 false 0 ([]:Str) [] []) [] []),(bI (at3 + 1)),x7)
    else
     aA (idx iO (bI (at3 + 1))) fun e4=>
     lV aW iO e1 dw (bI ((bI (at3 + 1)) + 1)) (aj.mk 3 e4.text (av.mk 0 false 0 ([]:Str) [] []) [x2] [])
   else
    lq (aW iO (bI (at3 + 1))) fun x8 g_ f1=>
    if f1 != 0 then
     some ((aj.mk 0 ([]:Str) (av.mk 0 false 0 ([]:Str) [] []) [] []),g_,f1)
    else
     aA (oH iO g_ ([93]:Str)) fun x9=>
     if !x9 then
      aA (kD iO g_) fun JX=>
      some ((aj.mk 0 ([]:Str) (av.mk 0 false 0 ([]:Str) [] []) [] []),g_,JX)
     else
      lV aW iO e1 dw (bI (g_ + 1)) (aj.mk 4 ([]:Str) (av.mk 0 false 0 ([]:Str) [] []) [x2,x8] [])
  else
   some (x2,at3,e1)
def zH (aW:List au→Int→Option (aj × Int × Int)) (bB:List au→Int→Int→Option (aj × Int × Int)) (dG:List au→Int→Option (aj × Int × Int)) (dH:List au→Int→Option (aj × Int × Int)) (dQ:List au→Int→Option (aj × Int × Int)) (dP:List au→Int→Option (aj × Int × Int)) (dM:List au→Int→Str→Bool→Option (List aj × List Str × Int × Int)) (bV:List au→Int→Option (aj × Int × Int)) (iO:List au) (bO:Int):Option (aj × Int × Int):=
 lq (dQ iO bO) fun x1 at2 e1=>
 lV aW iO e1 BIG at2 x1
def BI (aW:List au→Int→Option (aj × Int × Int)) (bB:List au→Int→Int→Option (aj × Int × Int)) (dG:List au→Int→Option (aj × Int × Int)) (dH:List au→Int→Option (aj × Int × Int)) (dQ:List au→Int→Option (aj × Int × Int)) (dP:List au→Int→Option (aj × Int × Int)) (dM:List au→Int→Str→Bool→Option (List aj × List Str × Int × Int)) (bV:List au→Int→Option (aj × Int × Int)) (iO:List au) (bO:Int):Option (aj × Int × Int):=
 if decide ((iO.length:Int)≤bO) then
  some ((aj.mk 0 ([]:Str) (av.mk 0 false 0 ([]:Str) [] []) [] []),bO,4)
 else
  aA (idx iO bO) fun e1=>
  if e1.kind == 2 then
   iA (wh e1.text) fun n1 ok1=>
   if ok1 then
    aA (qI (av.mk 2 false n1 ([]:Str) [] [])) fun x1=>
    some (x1,(bI (bO + 1)),0)
   else
    some ((aj.mk 0 ([]:Str) (av.mk 0 false 0 ([]:Str) [] []) [] []),bO,5)
  else
   if e1.kind == 3 then
    if decide ((e1.text.length:Int)≤4096) then
     aA (qI (av.mk 3 false 0 e1.text [] [])) fun x2=>
     some (x2,(bI (bO + 1)),0)
    else
     some ((aj.mk 0 ([]:Str) (av.mk 0 false 0 ([]:Str) [] []) [] []),bO,5)
   else
    if e1.kind == 1 then
     dP iO bO
    else
     if e1.kind == 4 then
      bV iO bO
     else
      some ((aj.mk 0 ([]:Str) (av.mk 0 false 0 ([]:Str) [] []) [] []),bO,5)
def yJ (aW:List au→Int→Option (aj × Int × Int)) (bB:List au→Int→Int→Option (aj × Int × Int)) (dG:List au→Int→Option (aj × Int × Int)) (dH:List au→Int→Option (aj × Int × Int)) (dQ:List au→Int→Option (aj × Int × Int)) (dP:List au→Int→Option (aj × Int × Int)) (dM:List au→Int→Str→Bool→Option (List aj × List Str × Int × Int)) (bV:List au→Int→Option (aj × Int × Int)) (iO:List au) (bO:Int):Option (aj × Int × Int):=
 aA (idx iO bO) fun e1=>
 if e1.text == ([110,117,108,108]:Str) then
  aA (qI (av.mk 0 false 0 ([]:Str) [] [])) fun x1=>
  some (x1,(bI (bO + 1)),0)
 else
  if e1.text == ([116,114,117,101]:Str) then
   aA (qI (av.mk 1 (e1.text == ([116,114,117,101]:Str)) 0 ([]:Str) [] [])) fun x2=>
   some (x2,(bI (bO + 1)),0)
  else
   if e1.text == ([102,97,108,115,101]:Str) then
    aA (qI (av.mk 1 (e1.text == ([116,114,117,101]:Str)) 0 ([]:Str) [] [])) fun x3=>
    some (x3,(bI (bO + 1)),0)
   else
    aA (ql e1.text) fun x4=>
    if !x4 then
     some ((aj.mk 0 ([]:Str) (av.mk 0 false 0 ([]:Str) [] []) [] []),bO,5)
    else
     aA (oH iO (bI (bO + 1)) ([40]:Str)) fun x5=>
     if !x5 then
      some ((aj.mk 2 e1.text (av.mk 0 false 0 ([]:Str) [] []) [] []),(bI (bO + 1)),0)
     else
      GK (dM iO (bI (bO + 2)) ([41]:Str) false) fun l1 x6 g_ e2=>
      some ((aj.mk 5 e1.text (av.mk 0 false 0 ([]:Str) [] []) l1 []),g_,e2)
def nC (aW:List au→Int→Option (aj × Int × Int)) (iO:List au) (qg:Str) (sJ:Bool):Nat→Int→List aj→List Str→Option (List aj × List Str × Int × Int)
 | 0,_,_,_=>none
 | dw + 1,at2,l1,lG=>
  if sJ then
   aA (
     if decide ((iO.length:Int)≤at2) then
      some true
     else
      aA (idx iO at2) fun e1=>
      aA (FU e1) fun x2=>
      some (!x2)) fun b1=>
   if b1 then
    aA (kD iO at2) fun x3=>
    some ([],[],at2,x3)
   else
    aA (idx iO at2) fun e2=>
    aA (app lG ([e2.text]:List Str)) fun Ux=>
    aA (oH iO (bI (at2 + 1)) ([58]:Str)) fun x4=>
    if !x4 then
     aA (kD iO (bI (at2 + 1))) fun x5=>
     some ([],[],(bI (at2 + 1)),x5)
    else
     lq (aW iO (bI ((bI (at2 + 1)) + 1))) fun x6 g_ e3=>
     if e3 != 0 then
      some ([],[],g_,e3)
     else
      aA (app l1 [x6]) fun l2=>
      aA (oH iO g_ qg) fun x7=>
      if x7 then
       some (l2,Ux,(bI (g_ + 1)),0)
      else
       aA (oH iO g_ ([44]:Str)) fun x8=>
       if !x8 then
        aA (kD iO g_) fun x9=>
        some ([],[],g_,x9)
       else
        nC aW iO qg sJ dw (bI (g_ + 1)) l2 Ux
  else
   lq (aW iO at2) fun JX t_ e4=>
   if e4 != 0 then
    some ([],[],t_,e4)
   else
    aA (app l1 [JX]) fun l3=>
    aA (oH iO t_ qg) fun YA=>
    if YA then
     some (l3,lG,(bI (t_ + 1)),0)
    else
     aA (oH iO t_ ([44]:Str)) fun x12=>
     if !x12 then
      aA (kD iO t_) fun x13=>
      some ([],[],t_,x13)
     else
      nC aW iO qg sJ dw (bI (t_ + 1)) l3 lG
def yK (aW:List au→Int→Option (aj × Int × Int)) (bB:List au→Int→Int→Option (aj × Int × Int)) (dG:List au→Int→Option (aj × Int × Int)) (dH:List au→Int→Option (aj × Int × Int)) (dQ:List au→Int→Option (aj × Int × Int)) (dP:List au→Int→Option (aj × Int × Int)) (dM:List au→Int→Str→Bool→Option (List aj × List Str × Int × Int)) (bV:List au→Int→Option (aj × Int × Int)) (iO:List au) (bO:Int) (qg:Str) (sJ:Bool):Option (List aj × List Str × Int × Int):=
 aA (oH iO bO qg) fun x1=>
 if x1 then
  some ([],[],(bI (bO + 1)),0)
 else
  nC aW iO qg sJ BIG bO [] []
def uy (aW:List au→Int→Option (aj × Int × Int)) (bB:List au→Int→Int→Option (aj × Int × Int)) (dG:List au→Int→Option (aj × Int × Int)) (dH:List au→Int→Option (aj × Int × Int)) (dQ:List au→Int→Option (aj × Int × Int)) (dP:List au→Int→Option (aj × Int × Int)) (dM:List au→Int→Str→Bool→Option (List aj × List Str × Int × Int)) (bV:List au→Int→Option (aj × Int × Int)) (iO:List au) (bO:Int):Option (aj × Int × Int):=
 aA (idx iO bO) fun e1=>
 if e1.text == ([40]:Str) then
  lq (aW iO (bI (bO + 1))) fun x1 g_ e2=>
  aA (
    if e2 == 0 then
     aA (oH iO g_ ([41]:Str)) fun x2=>
     some (!x2)
    else
     some false) fun b1=>
  if b1 then
   aA (kD iO g_) fun e3=>
   if e3 != 0 then
    some ((aj.mk 0 ([]:Str) (av.mk 0 false 0 ([]:Str) [] []) [] []),g_,e3)
   else
    some (x1,(bI (g_ + 1)),0)
  else
   if e2 != 0 then
    some ((aj.mk 0 ([]:Str) (av.mk 0 false 0 ([]:Str) [] []) [] []),g_,e2)
   else
    some (x1,(bI (g_ + 1)),0)
 else
  if e1.text == ([91]:Str) then
   GK (dM iO (bI (bO + 1)) ([93]:Str) false) fun l1 x3 t_ e4=>
   some ((aj.mk 9 ([]:Str) (av.mk 0 false 0 ([]:Str) [] []) l1 []),t_,e4)
  else
   if e1.text == ([123]:Str) then
    GK (dM iO (bI (bO + 1)) ([125]:Str) true) fun l2 lG ZY e5=>
    some ((aj.mk 10 ([]:Str) (av.mk 0 false 0 ([]:Str) [] []) l2 lG),ZY,e5)
   else
    some ((aj.mk 0 ([]:Str) (av.mk 0 false 0 ([]:Str) [] []) [] []),bO,5)
mutual
def bZ :Nat→List au→Int→Option (aj × Int × Int)
 | 0,_,_=>none
 | k + 1,fV,f_=>sV (bZ k) (dn k) (fu k) (fK k) (gL k) (h_ k) (eY k) (eT k) fV f_
def dn :Nat→List au→Int→Int→Option (aj × Int × Int)
 | 0,_,_,_=>none
 | k + 1,fV,f_,lM=>pY (bZ k) (dn k) (fu k) (fK k) (gL k) (h_ k) (eY k) (eT k) fV f_ lM
def fu :Nat→List au→Int→Option (aj × Int × Int)
 | 0,_,_=>none
 | k + 1,fV,f_=>zF (bZ k) (dn k) (fu k) (fK k) (gL k) (h_ k) (eY k) (eT k) fV f_
def fK :Nat→List au→Int→Option (aj × Int × Int)
 | 0,_,_=>none
 | k + 1,fV,f_=>zH (bZ k) (dn k) (fu k) (fK k) (gL k) (h_ k) (eY k) (eT k) fV f_
def gL :Nat→List au→Int→Option (aj × Int × Int)
 | 0,_,_=>none
 | k + 1,fV,f_=>BI (bZ k) (dn k) (fu k) (fK k) (gL k) (h_ k) (eY k) (eT k) fV f_
def h_ :Nat→List au→Int→Option (aj × Int × Int)
 | 0,_,_=>none
 | k + 1,fV,f_=>yJ (bZ k) (dn k) (fu k) (fK k) (gL k) (h_ k) (eY k) (eT k) fV f_
def eY :Nat→List au→Int→Str→Bool→Option (List aj × List Str × Int × Int)
 | 0,_,_,_,_=>none
 | k + 1,fV,f_,mY,mX=>yK (bZ k) (dn k) (fu k) (fK k) (gL k) (h_ k) (eY k) (eT k) fV f_ mY mX
def eT :Nat→List au→Int→Option (aj × Int × Int)
 | 0,_,_=>none
 | k + 1,fV,f_=>uy (bZ k) (dn k) (fu k) (fK k) (gL k) (h_ k) (eY k) (eT k) fV f_
end
def Ae (fV:List au) (f_:Int):Option (aj × Int × Int):=bZ BIG fV f_
def Ms (fV:List au) (f_:Int) (lM:Int):Option (aj × Int × Int):=dn BIG fV f_ lM
def U9 (fV:List au) (f_:Int):Option (aj × Int × Int):=fu BIG fV f_
def U_ (fV:List au) (f_:Int):Option (aj × Int × Int):=fK BIG fV f_
def Xc (fV:List au) (f_:Int):Option (aj × Int × Int):=gL BIG fV f_
def Xa (fV:List au) (f_:Int):Option (aj × Int × Int):=h_ BIG fV f_
def Xb (fV:List au) (f_:Int) (mY:Str) (mX:Bool):Option (List aj × List Str × Int × Int):=eY BIG fV f_ mY mX
def Oy (fV:List au) (f_:Int):Option (aj × Int × Int):=eT BIG fV f_
def uD (kW:aj→Option Int) (e1:aj):Nat→Int→Int→Option Int
 | 0,_,_=>none
 | dw + 1,n1,i1=>
  if decide (i1 < (e1.args.length:Int)) then
   aA (idx e1.args i1) fun e2=>
   aA (kW e2) fun x1=>
   uD kW e1 dw (bI (n1 + x1)) (bI (i1 + 1))
  else
   some n1
def zI (kW:aj→Option Int) (e1:aj):Option Int:=
 uD kW e1 BIG 1 0
def nE :Nat→aj→Option Int
 | 0,_=>none
 | k + 1,sU=>zI (nE k) sU
def Eb (sU:aj):Option Int:=nE BIG sU
def AL (e1:aj):Option Bool:=
 if e1.kind == 1 then
  some ((e1.args.length:Int) == 0)
 else
  if e1.kind == 2 then
   some ((e1.args.length:Int) == 0)
  else
   if e1.kind == 3 then
    some ((e1.args.length:Int) == 1)
   else
    if e1.kind == 6 then
     some ((e1.args.length:Int) == 1)
    else
     if e1.kind == 4 then
      some ((e1.args.length:Int) == 2)
     else
      if e1.kind == 7 then
       some ((e1.args.length:Int) == 2)
      else
       if e1.kind == 8 then
        some ((e1.args.length:Int) == 3)
       else
        some (((e1.kind == 5) || (e1.kind == 9)) || (e1.kind == 10))
def AJ (e1:aj):Option Bool:=
 if e1.kind == 2 then
  ql e1.name
 else
  if e1.kind == 3 then
   ql e1.name
  else
   if e1.kind == 5 then
    ql e1.name
   else
    if e1.kind == 6 then
     some ((e1.name == ([33]:Str)) || (e1.name == ([45]:Str)))
    else
     if e1.kind == 7 then
      aA (rA e1.name) fun x4=>
      some (decide (0 < x4))
     else
      some (e1.name == ([]:Str))
def wM (jH:av→av→Option Bool) (a1:av) (b1:av):Nat→Int→Option Bool
 | 0,_=>none
 | xW + 1,i2=>
  if decide (i2 < (a1.dW.length:Int)) then
   aA (idx a1.dW i2) fun e3=>
   aA (idx b1.dW i2) fun e4=>
   aA (jH e3 e4) fun x1=>
   if !x1 then
    some false
   else
    wM jH a1 b1 xW (bI (i2 + 1))
  else
   some true
def wN (jH:av→av→Option Bool) (a1:av) (b1:av):Nat→Int→Option Bool
 | 0,_=>none
 | dw + 1,i1=>
  if decide (i1 < (a1.keys.length:Int)) then
   aA (idx a1.keys i1) fun e1=>
   aA (idx b1.keys i1) fun e2=>
   if !(e1 == e2) then
    some false
   else
    wN jH a1 b1 dw (bI (i1 + 1))
  else
   wM jH a1 b1 BIG 0
def BJ (jH:av→av→Option Bool) (a1:av) (b1:av):Option Bool:=
 if (((((a1.kind != b1.kind) || (!(a1.lJ == b1.lJ))) || (a1.mG != b1.mG)) || (!(a1.nu == b1.nu))) || ((a1.dW.length:Int) != (b1.dW.length:Int))) || ((a1.keys.length:Int) != (b1.keys.length:Int)) then
  some false
 else
  wN jH a1 b1 BIG 0
def vO :Nat→av→av→Option Bool
 | 0,_,_=>none
 | k + 1,V6,V5=>BJ (vO k) V6 V5
def FW (V6:av) (V5:av):Option Bool:=vO BIG V6 V5
def qj (e1:aj):Nat→Int→Option Bool
 | 0,_=>none
 | dw + 1,i1=>
  if decide (i1 < (e1.keys.length:Int)) then
   aA (idx e1.keys i1) fun e2=>
   aA (
     if decide ((e2.length:Int) < 1) then
      some true
     else
      aA (idx e1.keys i1) fun e3=>
      some (decide (64 < (e3.length:Int)))) fun b4=>
   if b4 then
    some false
   else
    qj e1 dw (bI (i1 + 1))
  else
   some ((e1.keys.length:Int) == (e1.args.length:Int))
def yL (e1:aj):Option Bool:=
 aA (AL e1) fun x1=>
 aA (
   if !x1 then
    some true
   else
    aA (AJ e1) fun x2=>
    some (!x2)) fun b1=>
 aA (
   if b1 then
    some true
   else
    if e1.kind != 1 then
     aA (FW e1.value (av.mk 0 false 0 ([]:Str) [] [])) fun x3=>
     some (!x3)
    else
     some false) fun b2=>
 if b2 then
  some false
 else
  if e1.kind != 10 then
   some ((e1.keys.length:Int) == 0)
  else
   qj e1 BIG 0
def A8 (v1:av):Option Bool:=
 if ((v1.lJ && (v1.kind != 1)) || ((v1.mG != 0) && (v1.kind != 2))) || ((!(v1.nu == ([]:Str))) && (v1.kind != 3)) then
  some false
 else
  if ((decide (0 < (v1.dW.length:Int))) && (v1.kind != 4)) && (v1.kind != 5) then
   some false
  else
   some (((v1.keys.length:Int) == 0) || (v1.kind == 5))
def FV (s1:Str):Option Bool:=
 some ((decide (1≤(s1.length:Int))) && (decide ((s1.length:Int)≤64)))
def rD (Uw:Bool) (Gh:Bool):Option Int:=
 if Uw then
  some (-1)
 else
  if Gh then
   some 1
  else
   some 0
def yw (c1:UInt8):Option Bool:=
 some ((decide (48≤(c1.toNat:Int))) && (decide ((c1.toNat:Int)≤57)))
def yO (s1:Str):Nat→Int→Option Int
 | 0,_=>none
 | dw + 1,at2=>
  aA (
    if decide (at2 < (s1.length:Int)) then
     aA (idx s1 at2) fun x1=>
     yw x1
    else
     some false) fun b1=>
  if b1 then
   yO s1 dw (bI (at2 + 1))
  else
   some at2
def FZ (s1:Str) (bO:Int):Option Int:=
 yO s1 BIG bO
def rC (s1:Str):Nat→Int→Option Str
 | 0,_=>none
 | dw + 1,i1=>
  aA (
    if decide (i1 < (s1.length:Int)) then
     aA (idx s1 i1) fun x1=>
     some ((x1.toNat:Int) == 48)
    else
     some false) fun b1=>
  if b1 then
   rC s1 dw (bI (i1 + 1))
  else
   sl s1 i1 (s1.length:Int)
def yu (s1:Str):Option Str:=
 rC s1 BIG 0
def Di (a1:Str) (b1:Str):Option Int:=
 aA (yu a1) fun x1=>
 aA (yu b1) fun y1=>
 if (x1.length:Int) != (y1.length:Int) then
  rD (decide ((x1.length:Int) < (y1.length:Int))) (decide ((y1.length:Int) < (x1.length:Int)))
 else
  if !(x1 == y1) then
   rD (Go.Op.bytesLess x1 y1) (!(Go.Op.bytesLess x1 y1 || x1 == y1))
  else
   rD (decide ((a1.length:Int) < (b1.length:Int))) (decide ((b1.length:Int) < (a1.length:Int)))
def kZ (a1:Str) (b1:Str):Nat→Int→Int→Option Int
 | 0,_,_=>none
 | dw + 1,i1,wm=>
  if (decide (i1 < (a1.length:Int))) && (decide (wm < (b1.length:Int))) then
   aA (idx a1 i1) fun x1=>
   aA (idx b1 wm) fun x2=>
   aA (idx a1 i1) fun x3=>
   aA (idx b1 wm) fun x4=>
   aA (rD (decide ((x1.toNat:Int) < (x2.toNat:Int))) (decide ((x4.toNat:Int) < (x3.toNat:Int)))) fun c1=>
   aA (idx a1 i1) fun x5=>
   aA (yw x5) fun x6=>
   aA (
     if x6 then
      aA (idx b1 wm) fun x7=>
      yw x7
     else
      some false) fun b2=>
   if b2 then
    aA (FZ a1 i1) fun m1=>
    aA (FZ b1 wm) fun n1=>
    aA (sl a1 i1 m1) fun x9=>
    aA (sl b1 wm n1) fun JX=>
    aA (Di x9 JX) fun c2=>
    if c2 != 0 then
     some c2
    else
     kZ a1 b1 dw m1 n1
   else
    if c1 != 0 then
     some c1
    else
     kZ a1 b1 dw (bI (i1 + 1)) (bI (wm + 1))
  else
   rD (decide (wm < (b1.length:Int))) (decide (i1 < (a1.length:Int)))
def qL (a1:Str) (b1:Str):Option Int:=
 kZ a1 b1 BIG 0 0
def mE (v1:av):Nat→Int→Option Bool
 | 0,_=>none
 | dw + 1,i1=>
  if decide (i1 < (v1.keys.length:Int)) then
   aA (idx v1.keys i1) fun e1=>
   aA (FV e1) fun x1=>
   aA (
     if !x1 then
      some true
     else
      if decide (0 < i1) then
       aA (idx v1.keys (bI (i1 - 1))) fun e2=>
       aA (idx v1.keys i1) fun e3=>
       aA (qL e2 e3) fun x2=>
       some (decide (0≤x2))
      else
       some false) fun b1=>
   if b1 then
    some false
   else
    mE v1 dw (bI (i1 + 1))
  else
   some ((v1.keys.length:Int) == (v1.dW.length:Int))
def sD (v1:av):Option Bool:=
 mE v1 BIG 0
def uF (kX:av→Int→Option Int) (v1:av) (dx:Int):Nat→Int→Option Int
 | 0,_=>none
 | dw + 1,i1=>
  if decide (i1 < (v1.dW.length:Int)) then
   aA (idx v1.dW i1) fun e1=>
   aA (kX e1 (bI (dx + 1))) fun e2=>
   if e2 != 0 then
    some e2
   else
    uF kX v1 dx dw (bI (i1 + 1))
  else
   some 0
def zK (kX:av→Int→Option Int) (v1:av) (dx:Int):Option Int:=
 if decide (16 < dx) then
  some 13
 else
  aA (
    if (decide (v1.kind < 0)) || (decide (5 < v1.kind)) then
     some true
    else
     aA (A8 v1) fun x1=>
     some (!x1)) fun b1=>
  if b1 then
   some 1
  else
   if (decide (v1.mG < (-9007199254740992))) || (decide (9007199254740992 < v1.mG)) then
    some 2
   else
    if ((decide (4096 < (v1.nu.length:Int))) || (decide (1024 < (v1.dW.length:Int)))) || (decide (1024 < (v1.keys.length:Int))) then
     some 3
    else
     aA (
       if v1.kind == 5 then
        aA (sD v1) fun x2=>
        some (!x2)
       else
        some false) fun b2=>
     if b2 then
      some 1
     else
      if ((decide (4≤v1.kind)) && ((v1.dW.length:Int) == 0)) && (dx == 16) then
       some 13
      else
       uF kX v1 dx BIG 0
def nH :Nat→av→Int→Option Int
 | 0,_,_=>none
 | k + 1,Cq,fM=>zK (nH k) Cq fM
def Hl (Cq:av) (fM:Int):Option Int:=nH BIG Cq fM
def A9 (v1:av):Option Int:=
 Hl v1 1
def rz (lG:List Str) (i1:Int) (Cu:Int→Option Bool):Nat→Int→Option Bool
 | 0,_=>none
 | xW + 1,wm=>
  if decide (wm < i1) then
   aA (idx lG i1) fun e1=>
   aA (idx lG wm) fun e2=>
   if e1 == e2 then
    some true
   else
    rz lG i1 Cu xW (bI (wm + 1))
  else
   Cu (bI (i1 + 1))
def nA (lG:List Str):Nat→Int→Option Bool
 | 0,_=>none
 | dw + 1,i1=>
  if decide (i1 < (lG.length:Int)) then
   rz lG i1 (nA lG dw) BIG 0
  else
   some false
def AB (lG:List Str):Option Bool:=
 nA lG BIG 0
def uz (kV:aj→Int→Option Int) (e1:aj) (dx:Int):Nat→Int→Option Int
 | 0,_=>none
 | dw + 1,i1=>
  if decide (i1 < (e1.args.length:Int)) then
   aA (idx e1.args i1) fun e2=>
   aA (kV e2 (bI (dx + 1))) fun f2=>
   if f2 != 0 then
    some f2
   else
    uz kV e1 dx dw (bI (i1 + 1))
  else
   some 0
def zG (kV:aj→Int→Option Int) (e1:aj) (dx:Int):Option Int:=
 if decide (16 < dx) then
  some 13
 else
  aA (yL e1) fun x1=>
  if !x1 then
   some 1
  else
   aA (A9 e1.value) fun f1=>
   if (e1.kind == 1) && (f1 != 0) then
    some f1
   else
    if decide (1024 < (e1.args.length:Int)) then
     some 3
    else
     aA (AB e1.keys) fun x2=>
     if x2 then
      some 7
     else
      uz kV e1 dx BIG 0
def nD :Nat→aj→Int→Option Int
 | 0,_,_=>none
 | k + 1,sU,fM=>zG (nD k) sU fM
def Hf (sU:aj) (fM:Int):Option Int:=nD BIG sU fM
def AP (e1:aj):Option Int:=
 aA (Eb e1) fun x1=>
 if decide (4096 < x1) then
  some 15
 else
  Hf e1 1
def Dg (iO:List au):Option (aj × Int × Int):=
 lq (Ae iO 0) fun x1 bO e1=>
 if e1 != 0 then
  some ((aj.mk 0 ([]:Str) (av.mk 0 false 0 ([]:Str) [] []) [] []),bO,e1)
 else
  aA (AP x1) fun f1=>
  if f1 != 0 then
   some ((aj.mk 0 ([]:Str) (av.mk 0 false 0 ([]:Str) [] []) [] []),0,f1)
  else
   some (x1,bO,0)
def AQ (bJ:Str):Option (aj × Int × Int):=
 lq (qJ bJ) fun iO bO e1=>
 if e1 != 0 then
  some ((aj.mk 0 ([]:Str) (av.mk 0 false 0 ([]:Str) [] []) [] []),bO,e1)
 else
  lq (Dg iO) fun x1 n1 e2=>
  if (e2 == 0) && (n1 == (iO.length:Int)) then
   some (x1,0,0)
  else
   if e2 == 0 then
    if decide (n1 < (iO.length:Int)) then
     aA (idx iO n1) fun e3=>
     some ((aj.mk 0 ([]:Str) (av.mk 0 false 0 ([]:Str) [] []) [] []),e3.at_,5)
    else
     some ((aj.mk 0 ([]:Str) (av.mk 0 false 0 ([]:Str) [] []) [] []),(bJ.length:Int),5)
   else
    if decide (n1 < (iO.length:Int)) then
     aA (idx iO n1) fun e4=>
     some ((aj.mk 0 ([]:Str) (av.mk 0 false 0 ([]:Str) [] []) [] []),e4.at_,e2)
    else
     some ((aj.mk 0 ([]:Str) (av.mk 0 false 0 ([]:Str) [] []) [] []),(bJ.length:Int),e2)
def lU (s1:Str):Nat→List aR→Int→Option (List aR × Int × Int)
 | 0,_,_=>none
 | dw + 1,l1,bO=>
  if decide (bO < (s1.length:Int)) then
   aA (idx s1 bO) fun x1=>
   aA (
     if ((x1.toNat:Int) != 36) || (decide ((s1.length:Int)≤(bI (bO + 1)))) then
      some true
     else
      aA (idx s1 (bI (bO + 1))) fun x2=>
      if (x2.toNat:Int) != 36 then
       aA (idx s1 (bI (bO + 1))) fun x3=>
       some ((x3.toNat:Int) != 123)
      else
       some false) fun b1=>
   if b1 then
    aA (idx s1 bO) fun c1=>
    aA (yI l1 c1) fun l2=>
    lU s1 dw l2 (bI (bO + 1))
   else
    aA (idx s1 (bI (bO + 1))) fun x4=>
    if (x4.toNat:Int) == 36 then
     aA (yI l1 36) fun l2=>
     lU s1 dw l2 (bI (bO + 2))
    else
     aA (zD s1 (bI (bO + 2))) fun pR=>
     if decide (pR < 0) then
      some ([],bO,4)
     else
      aA (sl s1 (bI (bO + 2)) pR) fun x5=>
      lq (AQ x5) fun x6 wm e1=>
      if e1 != 0 then
       some ([],(bI ((bI (bO + 2)) + wm)),e1)
      else
       aA (app l1 [(aR.mk ([]:Str) true x6)]) fun l2=>
       lU s1 dw l2 (bI (pR + 1))
  else
   some (l1,0,0)
def AA (s1:Str):Option (List aR × Int × Int):=
 if decide (4096 < (s1.length:Int)) then
  some ([],0,3)
 else
  lU s1 BIG [] 0
def oo (s1:Str):Option Int:=
 if s1 == ([]:Str) then
  some 1
 else
  lq (AA s1) fun x1 x2 e1=>
  some e1
def nI (p1:Str) (bO:Int):Option UInt8:=
 if decide (bO < (p1.length:Int)) then
  idx p1 bO
 else
  some 0
def tC (p1:Str) (bO:Int):Option (UInt8 × Int × Bool):=
 aA (
   if decide (bO < (p1.length:Int)) then
    aA (idx p1 bO) fun x1=>
    some ((x1.toNat:Int) == 92)
   else
    some false) fun b1=>
 if b1 then
  aA (nI p1 (bI (bO + 1))) fun x2=>
  some (x2,(bI ((bI (bO + 1)) + 1)),(decide ((bI (bO + 1)) < (p1.length:Int))))
 else
  aA (
    if decide ((p1.length:Int)≤bO) then
     some true
    else
     aA (idx p1 bO) fun x3=>
     some ((x3.toNat:Int) == 93)) fun b2=>
  aA (
    if b2 then
     some true
    else
     aA (idx p1 bO) fun x4=>
     some ((x4.toNat:Int) == 45)) fun b3=>
  if b3 then
   some (0,bO,false)
  else
   aA (idx p1 bO) fun x5=>
   some (x5,(bI (bO + 1)),true)
def pz (p1:Str):Nat→Int→aF→Option (aF × Int × Bool)
 | 0,_,_=>none
 | dw + 1,at2,e1=>
  aA (nI p1 at2) fun x1=>
  if ((x1.toNat:Int) != 93) || (decide ((p1.length:Int)≤at2)) then
   lq (tC p1 at2) fun lo1 g_ ok1=>
   if !ok1 then
    some (e1,at2,false)
   else
    aA (nI p1 g_) fun x2=>
    if (x2.toNat:Int) == 45 then
     lq (tC p1 (bI (g_ + 1))) fun hi1 t_ ok2=>
     if (!ok2) || (decide ((hi1.toNat:Int) < (lo1.toNat:Int))) then
      some (e1,at2,false)
     else
      aA (app e1.items [([lo1,hi1]:List UInt8)]) fun x3=>
      pz p1 dw t_ (aF.mk e1.kind x3)
    else
     aA (app e1.items [([lo1,lo1]:List UInt8)]) fun x4=>
     pz p1 dw g_ (aF.mk e1.kind x4)
  else
   some (e1,(bI (at2 + 1)),(decide (0 < (e1.items.length:Int))))
def Ed (p1:Str) (bO:Int):Option (aF × Int × Bool):=
 pz p1 BIG bO (aF.mk 4 [])
def iI (p1:Str):Nat→List aF→Int→Option (List aF × Bool)
 | 0,_,_=>none
 | dw + 1,cK,bO=>
  if decide (bO < (p1.length:Int)) then
   aA (idx p1 bO) fun x1=>
   aA (idx p1 bO) fun x2=>
   aA (idx p1 bO) fun x3=>
   if (x3.toNat:Int) == 42 then
    aA (nI p1 (bI (bO + 1))) fun x4=>
    if (x4.toNat:Int) == 42 then
     aA (app cK [(aF.mk 1 [])]) fun qc=>
     iI p1 dw qc (bI (bO + 2))
    else
     aA (app cK [(aF.mk 2 [])]) fun rY=>
     iI p1 dw rY (bI (bO + 1))
   else
    if (x3.toNat:Int) == 63 then
     aA (app cK [(aF.mk 3 [])]) fun SG=>
     iI p1 dw SG (bI (bO + 1))
    else
     if (x3.toNat:Int) == 91 then
      lq (Ed p1 (bI (bO + 1))) fun x5 g_ ok1=>
      if !ok1 then
       some ([],false)
      else
       aA (app cK [x5]) fun abg=>
       iI p1 dw abg g_
     else
      if (x3.toNat:Int) == 92 then
       aA (nI p1 (bI (bO + 1))) fun x6=>
       aA (nI p1 (bI (bO + 1))) fun x7=>
       if !(decide ((bI (bO + 1)) < (p1.length:Int))) then
        some ([],false)
       else
        aA (app cK [(aF.mk 5 [([x6,x7]:List UInt8)])]) fun abf=>
        iI p1 dw abf (bI (bO + 2))
      else
       aA (app cK [(aF.mk 5 [([x1,x2]:List UInt8)])]) fun abe=>
       iI p1 dw abe (bI (bO + 1))
  else
   some (cK,true)
def Ee (p1:Str):Option (List aF × Bool):=
 if decide (4096 < (p1.length:Int)) then
  some ([],false)
 else
  iI p1 BIG [] 0
def yj (p1:Str):Option Int:=
 if decide (4096 < (p1.length:Int)) then
  some 3
 else
  iA (Ee p1) fun x1 ok1=>
  if !ok1 then
   some 5
  else
   some 0
def wJ (s1:Str):Option Int:=
 aA (
   if decide (0 < (s1.length:Int)) then
    aA (idx s1 0) fun x1=>
    some ((x1.toNat:Int) == 33)
   else
    some false) fun b1=>
 if b1 then
  aA (sl s1 1 (s1.length:Int)) fun s2=>
  yj s2
 else
  yj s1
def qZ (c1:bF):Nat→Int→Option Int
 | 0,_=>none
 | xW + 1,i2=>
  if decide (i2 < (c1.files.length:Int)) then
   aA (idx c1.files i2) fun e4=>
   aA (wJ e4) fun e5=>
   if e5 != 0 then
    some e5
   else
    qZ c1 xW (bI (i2 + 1))
  else
   some 0
def ru (c1:bF):Nat→Int→Option Int
 | 0,_=>none
 | dw + 1,i1=>
  if decide (i1 < (c1.restore.length:Int)) then
   aA (idx c1.restore i1) fun e2=>
   aA (oo e2) fun e3=>
   if e3 != 0 then
    some e3
   else
    ru c1 dw (bI (i1 + 1))
  else
   qZ c1 BIG 0
def Az (c1:bF):Option Int:=
 aA (oo c1.key) fun e1=>
 if e1 != 0 then
  some e1
 else
  if (decide (1024 < (c1.restore.length:Int))) || (decide (1024 < (c1.files.length:Int))) then
   some 3
  else
   ru c1 BIG 0
def iC (s1:List bE) (f1:bE→Option Bool):Nat→Int→Option Int
 | 0,_=>none
 | dw + 1,i1=>
  if decide (i1 < (s1.length:Int)) then
   aA (idx s1 i1) fun e1=>
   aA (f1 e1) fun x1=>
   if x1 then
    some i1
   else
    iC s1 f1 dw (bI (i1 + 1))
  else
   some (-1)
def jP (s1:List bE) (f1:bE→Option Bool):Option Int:=
 iC s1 f1 BIG 0
def jA (s1:List bE) (f1:bE→Option Bool):Option Bool:=
 aA (jP s1 f1) fun x1=>
 some (decide (0≤x1))
def l6 (x1:bE):Option Bool:=
 some (x1.name == ([102,105,108,101,115]:Str))
def Du (jQ:List Str):Nat→Int→Option Bool
 | 0,_=>none
 | dw + 1,i1=>
  if decide (0≤i1) then
   aA (idx jQ i1) fun p1=>
   aA (
     if !(p1 == ([]:Str)) then
      aA (idx p1 0) fun x1=>
      some ((x1.toNat:Int) == 33)
     else
      some false) fun b1=>
   if b1 then
    aA (sl p1 1 (p1.length:Int)) fun p2=>
    none
   else
    none
  else
   some false
def K9 (jQ:List Str) (s1:Str):Option Bool:=
 Du jQ BIG (bI ((jQ.length:Int) - 1))
def lg {β:Type} (y:β→b_→Option (Bool × β)) (fs1:List b_) (ps1:List Str):Nat→β→Int→Option β
 | 0,_,_=>none
 | dw + 1,s1,i1=>
  if decide (i1 < (fs1.length:Int)) then
   aA (idx fs1 i1) fun f1=>
   aA (K9 ps1 f1.path) fun b1=>
   if b1 then
    iA (y s1 f1) fun b2 s2=>
    if !b2 then
     some s2
    else
     lg y fs1 ps1 dw s2 (bI (i1 + 1))
   else
    lg y fs1 ps1 dw s1 (bI (i1 + 1))
  else
   some s1
def vv {β:Type} (y:β→b_→Option (Bool × β)) (s1:β) (fs1:List b_) (ps1:List Str):Option β:=lg y fs1 ps1 BIG s1 0
def xZ (kC:BitVec 32) (wm:BitVec 32) (i1:BitVec 32):Option (BitVec 32):=
 aA (some ((kC ^^^ wm) * (2654435761:BitVec 32))) fun x1=>
 some ((x1 + i1) ^^^ ((x1 + i1) >>> 16))
def sM (key1:BitVec 64):Nat→BitVec 32→BitVec 32→Int→Option (BitVec 64)
 | 0,_,_,_=>none
 | dw + 1,l1,kC,i1=>
  if decide (i1 < 4) then
   if ((i1:Int).tmod 2) == 1 then
    aA (xZ kC (BitVec.setWidth 32 (key1 >>> 32)) (BitVec.ofInt 32 (bI (i1 + 1)))) fun x2=>
    sM key1 dw kC (l1 ^^^ x2) (bI (i1 + 1))
   else
    aA (xZ kC (BitVec.setWidth 32 key1) (BitVec.ofInt 32 (bI (i1 + 1)))) fun x3=>
    sM key1 dw kC (l1 ^^^ x3) (bI (i1 + 1))
  else
   some (((BitVec.setWidth 64 l1) <<< 32) ||| (BitVec.setWidth 64 kC))
def Cg (key1:BitVec 64) (x1:BitVec 64):Option (BitVec 64):=
 sM key1 BIG (BitVec.setWidth 32 (x1 >>> 32)) (BitVec.setWidth 32 x1) 0
def wB (b2:List UInt8) (x2:BitVec 64) (x3:List UInt8) (Bg:List UInt8→BitVec 64→Option (BitVec 64)):Nat→BitVec 64→Int→Option (BitVec 64)
 | 0,_,_=>none
 | xW + 1,g1,i1=>
  if decide (i1 < (x3.length:Int)) then
   aA (idx x3 i1) fun c1=>
   aA (chk (decide (0≤(bI (8 * i1))))) fun _=>
   aA (some (g1 ||| ((BitVec.setWidth 64 c1.toBitVec) <<< (Int.toNat (bI (8 * i1)))))) fun g2=>
   wB b2 x2 x3 Bg xW g2 (bI (i1 + 1))
  else
   aA (Cg g1 x2) fun x4=>
   aA (sl b2 (if (b2.length:Int) < 8 then (b2.length:Int) else 8) (b2.length:Int)) fun b3=>
   Bg b3 (x4 ^^^ g1)
def sK :Nat→List UInt8→BitVec 64→Option (BitVec 64)
 | 0,_,_=>none
 | dw + 1,b2,x2=>
  if decide (0 < (b2.length:Int)) then
   aA (sl b2 0 (if (b2.length:Int) < 8 then (b2.length:Int) else 8)) fun x3=>
   wB b2 x2 x3 (sK dw) BIG 0 0
  else
   some x2
def Ce (b1:List UInt8):Option (BitVec 64):=
 aA (Cg (BitVec.ofInt 64 (b1.length:Int)) 0) fun x1=>
 sK BIG b1 x1
def yc (x2:Int) (d1:BitVec 64) (Cv:List UInt8→Int→Option (BitVec 64)):Nat→List UInt8→Int→Option (BitVec 64)
 | 0,_,_=>none
 | xW + 1,b3,i1=>
  if decide (i1 < 8) then
   aA (chk (decide (0≤(bI (8 * i1))))) fun _=>
   aA (app b3 ([(UInt8.ofBitVec (BitVec.setWidth 8 (d1 >>> (Int.toNat (bI (8 * i1))))))]:List UInt8)) fun b4=>
   yc x2 d1 Cv xW b4 (bI (i1 + 1))
  else
   Cv b3 (bI (x2 + 1))
def vk (pE:List (BitVec 64)):Nat→List UInt8→Int→Option (BitVec 64)
 | 0,_,_=>none
 | dw + 1,b2,x2=>
  if decide (x2 < (pE.length:Int)) then
   aA (idx pE x2) fun d1=>
   yc x2 d1 (vk pE dw) BIG b2 0
  else
   Ce b2
def Ej (OM:Str) (pE:List (BitVec 64)):Option (BitVec 64):=
 aA (app ([]:Str) OM) fun x1=>
 aA (app x1 ([0]:List UInt8)) fun b1=>
 vk pE BIG b1 0
def sW (s1:List (BitVec 64)) (x1:b_):Option (Bool × List (BitVec 64)):=
 aA (app ([]:Str) x1.path) fun b1=>
 aA (Ce b1) fun d1=>
 aA (app s1 ([d1,x1.digest]:List (BitVec 64))) fun s2=>
 some (true,s2)
def Aj (tH:List b_) (jQ:List Str):Option (BitVec 64):=
 aA (vv sW [] tH jQ) fun pE=>
 Ej ([102,105,108,101,115]:Str) pE
def vg (d1:BitVec 64):Nat→Int→List UInt8→Option Str
 | 0,_,_=>none
 | dw + 1,i1,b1=>
  if decide (i1 < 16) then
   aA (chk (decide (0≤(bI (60 - (bI (4 * i1))))))) fun _=>
   aA (some ((d1 >>> (Int.toNat (bI (60 - (bI (4 * i1)))))) &&& (15:BitVec 64))) fun x1=>
   aA (idx ([48,49,50,51,52,53,54,55,56,57,97,98,99,100,101,102]:Str) (x1.toNat:Int)) fun x2=>
   aA (idx ([(b1.getD 0 0),(b1.getD 1 0),(b1.getD 2 0),(b1.getD 3 0),(b1.getD 4 0),(b1.getD 5 0),(b1.getD 6 0),(b1.getD 7 0),(b1.getD 8 0),(b1.getD 9 0),(b1.getD 10 0),(b1.getD 11 0),(b1.getD 12 0),(b1.getD 13 0),(b1.getD 14 0),(b1.getD 15 0)]:List UInt8) i1) fun e1=>
   aA (some (List.set ([(b1.getD 0 0),(b1.getD 1 0),(b1.getD 2 0),(b1.getD 3 0),(b1.getD 4 0),(b1.getD 5 0),(b1.getD 6 0),(b1.getD 7 0),(b1.getD 8 0),(b1.getD 9 0),(b1.getD 10 0),(b1.getD 11 0),(b1.getD 12 0),(b1.getD 13 0),(b1.getD 14 0),(b1.getD 15 0)]:List UInt8) (Int.toNat i1) x2)) fun b2=>
   vg d1 dw (bI (i1 + 1)) ([(b2.getD 0 0),(b2.getD 1 0),(b2.getD 2 0),(b2.getD 3 0),(b2.getD 4 0),(b2.getD 5 0),(b2.getD 6 0),(b2.getD 7 0),(b2.getD 8 0),(b2.getD 9 0),(b2.getD 10 0),(b2.getD 11 0),(b2.getD 12 0),(b2.getD 13 0),(b2.getD 14 0),(b2.getD 15 0)]:List UInt8)
  else
   some ([(b1.getD 0 0),(b1.getD 1 0),(b1.getD 2 0),(b1.getD 3 0),(b1.getD 4 0),(b1.getD 5 0),(b1.getD 6 0),(b1.getD 7 0),(b1.getD 8 0),(b1.getD 9 0),(b1.getD 10 0),(b1.getD 11 0),(b1.getD 12 0),(b1.getD 13 0),(b1.getD 14 0),(b1.getD 15 0)]:List UInt8)
def zT (d1:BitVec 64):Option Str:=
 vg d1 BIG 0 ([0,0,0,0,0,0,0,0,0,0,0,0,0,0,0,0]:List UInt8)
def fI (s1:List bE):Option (List bE):=
 app [] s1
def qX (c1:bF) (C8:List bE) (tH:List b_):Option (List bE × Int):=
 aA (oV c1) fun e1=>
 if e1 != 0 then
  some ([],e1)
 else
  aA (jA C8 l6) fun x1=>
  if x1 then
   some ([],7)
  else
   aA (Aj tH c1.files) fun x2=>
   aA (zT x2) fun x3=>
   aA (fI C8) fun x4=>
   aA (app x4 [(bE.mk ([102,105,108,101,115]:Str) (av.mk 3 false 0 x3 [] []))]) fun x5=>
   some (x5,0)
def zR (l5:List bE):Nat→Int→List (Str × Int)→Option Int
 | 0,_,_=>none
 | dw + 1,x1,y1=>
  if decide (x1 < (l5.length:Int)) then
   aA (idx l5 x1) fun e1=>
   aA (pF (aj.mk 2 e1.name (av.mk 0 false 0 ([]:Str) [] []) [] [])) fun x2=>
   if x2 != 0 then
    some 1
   else
    aA (o7 e1.value) fun e2=>
    if e2 != 0 then
     some e2
    else
     if decide (1 < (uO (vJ y1 e1.name (bI ((uO y1 e1.name) + 1))) e1.name)) then
      some 7
     else
      zR l5 dw (bI (x1 + 1)) (vJ y1 e1.name (bI ((uO y1 e1.name) + 1)))
  else
   some 0
def Gm (l5:List bE):Option Int:=
 if decide (1024 < (l5.length:Int)) then
  some 3
 else
  zR l5 BIG 0 []
def Dx (e1:aj) (l5:List bE):Option (List bE × Int):=
 aA (Gm l5) fun f1=>
 if f1 != 0 then
  some ([],f1)
 else
  aA (pF e1) fun f2=>
  if f2 != 0 then
   some ([],f2)
  else
   some (l5,0)
def HZ (e1:Int):Option (iG dX Unit):=
 some (.bad (dX.mk e1))
def pQ (s1:List bE) (name1:Str):Nat→Int→Option (iG dX av)
 | 0,_=>none
 | dw + 1,x1=>
  if decide (x1 < (s1.length:Int)) then
   aA (idx s1 x1) fun e1=>
   if e1.name == name1 then
    some (.ok e1.value)
   else
    pQ s1 name1 dw (bI (x1 + 1))
  else
   Md (HZ 10) (fun e2=>some (.bad e2)) fun _=>
   some (.ok (av.mk 0 false 0 ([]:Str) [] []))
def xA (s1:List bE) (name1:Str):Option (iG dX av):=
 pQ s1 name1 BIG 0
def u7 (kQ:List bE→aj→Option (iG dX av)) (s1:List bE) (e1:aj):Option (iG dX av):=
 if e1.kind == 1 then
  some (.ok e1.value)
 else
  if e1.kind == 2 then
   Md (xA s1 e1.name) (fun e2=>some (.bad e2)) fun x1=>
   some (.ok x1)
  else
   if e1.kind == 3 then
    none
   else
    if e1.kind == 4 then
     aA (idx e1.args 0) fun e3=>
     Md (kQ s1 e3) (fun e4=>some (.bad e4)) fun x2=>
     none
    else
     if e1.kind == 5 then
      none
     else
      if e1.kind == 6 then
       none
      else
       if e1.kind == 7 then
        none
       else
        if e1.kind == 8 then
         none
        else
         if e1.kind == 9 then
          none
         else
          none
def nR :Nat→List bE→aj→Option (iG dX av)
 | 0,_,_=>none
 | k + 1,Jh,sU=>u7 (nR k) Jh sU
def Cw (Jh:List bE) (sU:aj):Option (iG dX av):=nR BIG Jh sU
def yU (s1:List bE) (e1:aj):Option (av × Int):=
 Md (Cw s1 e1) (fun f1=>some ((av.mk 0 false 0 ([]:Str) [] []),f1.code)) fun v1=>
 some (v1,0)
def wu (jX:av→Option av) (v1:av):Nat→Int→av→Option av
 | 0,_,_=>none
 | dw + 1,x1,cK=>
  if decide (x1 < (v1.dW.length:Int)) then
   aA (idx v1.dW x1) fun e1=>
   aA (jX e1) fun x2=>
   aA (app cK.dW [x2]) fun x3=>
   wu jX v1 dw (bI (x1 + 1)) (av.mk cK.kind cK.lJ cK.mG cK.nu x3 cK.keys)
  else
   aA (app cK.keys v1.keys) fun x4=>
   some (av.mk cK.kind cK.lJ cK.mG cK.nu cK.dW x4)
def BZ (jX:av→Option av) (v1:av):Option av:=
 wu jX v1 BIG 0 (av.mk v1.kind v1.lJ v1.mG v1.nu [] [])
def u_ :Nat→av→Option av
 | 0,_=>none
 | k + 1,Cq=>BZ (u_ k) Cq
def Lg (Cq:av):Option av:=u_ BIG Cq
def H6 (e1:aj) (l5:List bE):Option (av × Int):=
 iA (Dx e1 l5) fun s1 f1=>
 if f1 != 0 then
  some ((av.mk 0 false 0 ([]:Str) [] []),f1)
 else
  iA (yU s1 e1) fun x1 f2=>
  aA (Lg x1) fun x2=>
  some (x2,f2)
def ER (v1:av):Option (Str × Int):=
 if (v1.kind == 4) || (v1.kind == 5) then
  some (([]:Str),9)
 else
  aA (o7 v1) fun e1=>
  if e1 != 0 then
   some (([]:Str),e1)
  else
   if v1.kind == 0 then
    some (([]:Str),0)
   else
    if v1.kind == 3 then
     some (v1.nu,0)
    else
     none
def xw (p1:aR) (l5:List bE):Option (Str × Int):=
 if !p1.Uy then
  some (p1.text,0)
 else
  iA (H6 p1.expr l5) fun x1 vo=>
  if vo != 0 then
   some (([]:Str),vo)
  else
   ER x1
def rJ (l5:List bE) (ps1:List aR):Nat→Int→Str→Option (Str × Int)
 | 0,_,_=>none
 | dw + 1,x2,b1=>
  if decide (x2 < (ps1.length:Int)) then
   aA (idx ps1 x2) fun e1=>
   iA (xw e1 l5) fun t1 X6=>
   if X6 != 0 then
    some (([]:Str),X6)
   else
    aA (app b1 t1) fun b2=>
    rJ l5 ps1 dw (bI (x2 + 1)) b2
  else
   if decide (4096 < (b1.length:Int)) then
    some (([]:Str),3)
   else
    some (b1,0)
def Ag (s1:Str) (l5:List bE):Option (Str × Int):=
 lq (rH s1) fun ps1 x1 vo=>
 if vo != 0 then
  some (([]:Str),vo)
 else
  aA (Gm l5) fun DC=>
  if DC != 0 then
   some (([]:Str),DC)
  else
   rJ l5 ps1 BIG 0 []
def vw (s1:Str) (l5:List bE):Option (Str × Int):=
 iA (Ag s1 l5) fun cK e1=>
 if e1 != 0 then
  some (([]:Str),e1)
 else
  if cK == ([]:Str) then
   some (([]:Str),1)
  else
   if decide (512 < (cK.length:Int)) then
    some (([]:Str),3)
   else
    some (cK,0)
def vB (c1:bF) (C8:List bE) (tH:List b_):Option (Str × Int):=
 iA (qX c1 C8 tH) fun l5 e1=>
 if e1 != 0 then
  some (([]:Str),e1)
 else
  vw c1.key l5
def Bc :Option Bool:=
 iA (vB (bF.mk ([103,111,45,36,123,102,105,108,101,115,125]:Str) [] []) [] []) fun a1 e1=>
 iA (vB (bF.mk ([36,123,111,115,125,47,49]:Str) [] []) [(bE.mk ([111,115]:Str) (av.mk 3 false 0 ([108,105,110,117,120]:Str) [] []))] []) fun b1 f1=>
 iA (vB (bF.mk ([36,123,97,114,99,104,125]:Str) [] []) [] []) fun x1 g1=>
 aA (Ej ([102,105,108,101,115]:Str) []) fun x2=>
 aA (zT x2) fun x3=>
 aA (app ([103,111,45]:Str) x3) fun x4=>
 some (((((a1 == x4) && (e1 == 0)) && (b1 == ([108,105,110,117,120,47,49]:Str))) && (f1 == 0)) && (g1 != 0))
def nN (c1:bF):Option Bool:=
 aA (Gc (dJ.mk c1 [] [])) fun x1=>
 aA (
   if !x1 then
    some true
   else
    aA (oV c1) fun x2=>
    aA (Az c1) fun x3=>
    some (x2 == x3)) fun b1=>
 if b1 then
  Bc
 else
  some false
end Go.Ft
