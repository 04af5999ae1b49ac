/- Proved here: nothing: the functional texts of the functions that the statements reach, as our program wrote them. -/
import Derived.Test.YtljfgagpnpolhaaGreatDoorKhWords
set_option linter.unusedVariables false
set_option linter.unusedSimpArgs false
set_option linter.unusedSectionVars false
namespace Go.Ft
open Go
structure aB where
 path:Str
 digest:BitVec 64
 deriving DecidableEq
structure aF where
 set:List (BitVec 64)
 many:Bool
 literal:Bool
 char:UInt8
 deriving DecidableEq
structure aj where
 kind:Int
 items:List (List UInt8)
 deriving DecidableEq
structure aR where
 kind:Int
 text:Str
 at_:Int
 deriving DecidableEq
structure ah where
 ts:List aR
 at_:Int
 deriving DecidableEq
structure ay where
 at_:Int
 code:Int
 deriving DecidableEq
structure au where
 kind:Int
 kT:Bool
 oo:Int
 nG:Str
 eO:List au
 keys:List Str
structure av where
 kind:Int
 name:Str
 value:au
 args:List av
 keys:List Str
structure aV where
 text:Str
 Qa:Bool
 expr:av
structure aZ where
 key:Str
 restore:List Str
 files:List Str
 deriving DecidableEq
structure aJ where
 name:Str
 value:au
structure bg where
 code:Int
 deriving DecidableEq
structure LP where
 x:Int
 y:Int
 signed:Bool
 code:UInt8
 deriving DecidableEq
structure qp where
 x:Int
 y:Int
 signed:Bool
 code:UInt8
 deriving DecidableEq
structure LM where
 msg:Str
 addr:BitVec 64
 deriving DecidableEq
structure kU where
 msg:Str
 addr:BitVec 64
 deriving DecidableEq
structure LK where
 key:Str
 restore:List Str
 files:List Str
 deriving DecidableEq
structure LJ where
 spec:aZ
 vars:List aJ
 files:List aB
structure r_ where
 spec:aZ
 vars:List aJ
 files:List aB
structure LH where
 path:Str
 digest:BitVec 64
 deriving DecidableEq
structure LG where
 kind:Int
 kT:Bool
 oo:Int
 nG:Str
 eO:List au
 keys:List Str
structure LD where
 name:Str
 value:au
structure Rl where
 set:List (BitVec 64)
 many:Bool
 literal:Bool
 char:UInt8
 deriving DecidableEq
structure LC where
 kind:Int
 name:Str
 value:au
 args:List av
 keys:List Str
structure LB where
 text:Str
 Qa:Bool
 expr:av
structure LA where
 kind:Int
 text:Str
 at_:Int
 deriving DecidableEq
structure Rk where
 kind:Int
 items:List (List UInt8)
 deriving DecidableEq
structure Lx where
 ts:List aR
 at_:Int
 deriving DecidableEq
structure Lv where
 at_:Int
 code:Int
 deriving DecidableEq
structure Lu where
 code:Int
 deriving DecidableEq
structure Ls where
 neg:Bool
 hi:BitVec 64
 lo:BitVec 64
 deriving DecidableEq
structure qP where
 neg:Bool
 hi:BitVec 64
 lo:BitVec 64
 deriving DecidableEq
structure Rj where
 half:List (BitVec 64)
 neg:Bool
 deriving DecidableEq
structure OZ where
 half:List (BitVec 64)
 neg:Bool
 deriving DecidableEq
structure Lp where
 lo:UInt8
 hi:UInt8
 deriving DecidableEq
structure uj where
 lo:UInt8
 hi:UInt8
 deriving DecidableEq
structure Ri where
 func:Str
 num:Str
 err:Option Nat
structure JX where
 func:Str
 num:Str
 err:Option Nat
structure Lm where
 s:Str
 deriving DecidableEq
structure qR where
 s:Str
 deriving DecidableEq
def aB.bulk (x:aB):Nat:=(x.path.length + 1) + 1 + 1
def aR.bulk (x:aR):Nat:=1 + (x.text.length + 1) + 1 + 1
def ah.bulk (x:ah):Nat:=((List.map (fun z:aR=>(aR.bulk z)) x.ts).sum + 1) + 1 + 1
def ay.bulk (x:ay):Nat:=1 + 1 + 1
mutual
def au.bulk :au→Nat
 | ⟨a0,a1,a2,a3,a4,a5⟩=>1 + 1 + 1 + (a3.length + 1) + (au.rV a4 + 1) + ((List.map (fun z:Str=>(z.length + 1)) a5).sum + 1) + 1
def au.rV :List au→Nat
 | []=>0
 | x :: xs=>au.bulk x + au.rV xs
end
theorem au.CG :∀ l:List au,au.rV l=(l.map au.bulk).sum
 | []=>rfl
 | x :: l=>by simp only [au.rV,List.map_cons,List.sum_cons,au.CG l]
theorem au.I6 (x:au):au.bulk x=1 + 1 + 1 + (x.nG.length + 1) + (au.rV x.eO + 1) + ((List.map (fun z:Str=>(z.length + 1)) x.keys).sum + 1) + 1:=by cases x; rfl
mutual
def av.bulk :av→Nat
 | ⟨a0,a1,a2,a3,a4⟩=>1 + (a1.length + 1) + (au.bulk a2) + (av.rV a3 + 1) + ((List.map (fun z:Str=>(z.length + 1)) a4).sum + 1) + 1
def av.rV :List av→Nat
 | []=>0
 | x :: xs=>av.bulk x + av.rV xs
end
theorem av.CG :∀ l:List av,av.rV l=(l.map av.bulk).sum
 | []=>rfl
 | x :: l=>by simp only [av.rV,List.map_cons,List.sum_cons,av.CG l]
theorem av.I6 (x:av):av.bulk x=1 + (x.name.length + 1) + (au.bulk x.value) + (av.rV x.args + 1) + ((List.map (fun z:Str=>(z.length + 1)) x.keys).sum + 1) + 1:=by cases x; rfl
def aV.bulk (x:aV):Nat:=(x.text.length + 1) + 1 + (av.bulk x.expr) + 1
def aZ.bulk (x:aZ):Nat:=(x.key.length + 1) + ((List.map (fun z:Str=>(z.length + 1)) x.restore).sum + 1) + ((List.map (fun z:Str=>(z.length + 1)) x.files).sum + 1) + 1
def aJ.bulk (x:aJ):Nat:=(x.name.length + 1) + (au.bulk x.value) + 1
def bg.bulk (x:bg):Nat:=1 + 1
def LP.bulk (x:LP):Nat:=1 + 1 + 1 + 1 + 1
def qp.bulk (x:qp):Nat:=1 + 1 + 1 + 1 + 1
def LM.bulk (x:LM):Nat:=(x.msg.length + 1) + 1 + 1
def kU.bulk (x:kU):Nat:=(x.msg.length + 1) + 1 + 1
def LK.bulk (x:LK):Nat:=(x.key.length + 1) + ((List.map (fun z:Str=>(z.length + 1)) x.restore).sum + 1) + ((List.map (fun z:Str=>(z.length + 1)) x.files).sum + 1) + 1
def LJ.bulk (x:LJ):Nat:=(aZ.bulk x.spec) + ((List.map (fun z:aJ=>(aJ.bulk z)) x.vars).sum + 1) + ((List.map (fun z:aB=>(aB.bulk z)) x.files).sum + 1) + 1
def r_.bulk (x:r_):Nat:=(aZ.bulk x.spec) + ((List.map (fun z:aJ=>(aJ.bulk z)) x.vars).sum + 1) + ((List.map (fun z:aB=>(aB.bulk z)) x.files).sum + 1) + 1
def LH.bulk (x:LH):Nat:=(x.path.length + 1) + 1 + 1
def LG.bulk (x:LG):Nat:=1 + 1 + 1 + (x.nG.length + 1) + (au.rV x.eO + 1) + ((List.map (fun z:Str=>(z.length + 1)) x.keys).sum + 1) + 1
def LD.bulk (x:LD):Nat:=(x.name.length + 1) + (au.bulk x.value) + 1
def LC.bulk (x:LC):Nat:=1 + (x.name.length + 1) + (au.bulk x.value) + (av.rV x.args + 1) + ((List.map (fun z:Str=>(z.length + 1)) x.keys).sum + 1) + 1
def LB.bulk (x:LB):Nat:=(x.text.length + 1) + 1 + (av.bulk x.expr) + 1
def LA.bulk (x:LA):Nat:=1 + (x.text.length + 1) + 1 + 1
def Lx.bulk (x:Lx):Nat:=((List.map (fun z:aR=>(aR.bulk z)) x.ts).sum + 1) + 1 + 1
def Lv.bulk (x:Lv):Nat:=1 + 1 + 1
def Lu.bulk (x:Lu):Nat:=1 + 1
def Ls.bulk (x:Ls):Nat:=1 + 1 + 1 + 1
def qP.bulk (x:qP):Nat:=1 + 1 + 1 + 1
def Lp.bulk (x:Lp):Nat:=1 + 1 + 1
def uj.bulk (x:uj):Nat:=1 + 1 + 1
def Lm.bulk (x:Lm):Nat:=(x.s.length + 1) + 1
def qR.bulk (x:qR):Nat:=(x.s.length + 1) + 1
def kI (l1:List aB):Nat→Int→Option Bool
 | 0,_=>none
 | bJ + 1,i1=>
  if (decide (i1 < (l1.length:Int))) && (decide (i1 < 20)) then
   aA (idx l1 i1) fun e1=>
   if decide (120 < (e1.path.length:Int)) then
    some false
   else
    kI l1 bJ (bE (i1 + 1))
  else
   some (decide ((l1.length:Int)≤20))
def vO (l1:List aB):Option Bool:=
 kI l1 BIG 0
def iL (l1:List Str):Nat→Int→Option Bool
 | 0,_=>none
 | bJ + 1,i1=>
  if (decide (i1 < (l1.length:Int))) && (decide (i1 < 10)) then
   aA (idx l1 i1) fun e1=>
   if decide (60 < (e1.length:Int)) then
    some false
   else
    iL l1 bJ (bE (i1 + 1))
  else
   some (decide ((l1.length:Int)≤10))
def oU (l1:List Str):Option Bool:=
 iL l1 BIG 0
def g_ (s1:List (BitVec 64)) (c1:UInt8):Option (List (BitVec 64)):=
 aA (idx ([(s1.getD 0 0),(s1.getD 1 0),(s1.getD 2 0),(s1.getD 3 0)]:List (BitVec 64)) ((c1 / 64).toNat:Int)) fun e1=>
 aA (some (e1 &&& ~~~ ((1:BitVec 64) <<< (c1 % 64).toNat))) fun x1=>
 aA (idx ([(s1.getD 0 0),(s1.getD 1 0),(s1.getD 2 0),(s1.getD 3 0)]:List (BitVec 64)) ((c1 / 64).toNat:Int)) fun e2=>
 aA (some (List.set ([(s1.getD 0 0),(s1.getD 1 0),(s1.getD 2 0),(s1.getD 3 0)]:List (BitVec 64)) (Int.toNat ((c1 / 64).toNat:Int)) x1)) fun y1=>
 some ([(y1.getD 0 0),(y1.getD 1 0),(y1.getD 2 0),(y1.getD 3 0)]:List (BitVec 64))
def jN (Ei:Bool):Option (List (BitVec 64)):=
 if !Ei then
  aA (g_ ([18446744073709551615,18446744073709551615,18446744073709551615,18446744073709551615]:List (BitVec 64)) 47) fun y1=>
  some ([(y1.getD 0 0),(y1.getD 1 0),(y1.getD 2 0),(y1.getD 3 0)]:List (BitVec 64))
 else
  some ([18446744073709551615,18446744073709551615,18446744073709551615,18446744073709551615]:List (BitVec 64))
def iN (s1:Str):Option (UInt8 × Int):=
 aA (
   if s1 == ([]:Str) then
    some true
   else
    aA (idx s1 0) fun x1=>
    some ((x1.toNat:Int) == 93)) fun b1=>
 aA (
   if b1 then
    some true
   else
    aA (idx s1 0) fun x2=>
    some ((x2.toNat:Int) == 45)) fun b2=>
 if b2 then
  some (0,0)
 else
  aA (idx s1 0) fun x3=>
  if (x3.toNat:Int) != 92 then
   aA (idx s1 0) fun x4=>
   some (x4,1)
  else
   if decide ((s1.length:Int) < 2) then
    some (0,0)
   else
    aA (idx s1 1) fun x5=>
    some (x5,2)
def fQ (s1:List (BitVec 64)) (c1:UInt8):Option (List (BitVec 64)):=
 aA (idx ([(s1.getD 0 0),(s1.getD 1 0),(s1.getD 2 0),(s1.getD 3 0)]:List (BitVec 64)) ((c1 / 64).toNat:Int)) fun e1=>
 aA (some (e1 ||| ((1:BitVec 64) <<< (c1 % 64).toNat))) fun x1=>
 aA (idx ([(s1.getD 0 0),(s1.getD 1 0),(s1.getD 2 0),(s1.getD 3 0)]:List (BitVec 64)) ((c1 / 64).toNat:Int)) fun e2=>
 aA (some (List.set ([(s1.getD 0 0),(s1.getD 1 0),(s1.getD 2 0),(s1.getD 3 0)]:List (BitVec 64)) (Int.toNat ((c1 / 64).toNat:Int)) x1)) fun y1=>
 some ([(y1.getD 0 0),(y1.getD 1 0),(y1.getD 2 0),(y1.getD 3 0)]:List (BitVec 64))
def gK (dB:Int) (n1:Int) (jT:UInt8) (n2:Int) (jo:Int→List (BitVec 64)→Option (List (BitVec 64) × Int)):Nat→Int→List (BitVec 64)→Option (List (BitVec 64) × Int)
 | 0,_,_=>none
 | uq + 1,c1,mO=>
  if decide (c1≤(jT.toNat:Int)) then
   aA (fQ ([(mO.getD 0 0),(mO.getD 1 0),(mO.getD 2 0),(mO.getD 3 0)]:List (BitVec 64)) (Ft.byteOf c1)) fun y1=>
   gK dB n1 jT n2 jo uq (bE (c1 + 1)) ([(y1.getD 0 0),(y1.getD 1 0),(y1.getD 2 0),(y1.getD 3 0)]:List (BitVec 64))
  else
   jo (bE ((bE (dB + n1)) + (bE (1 + n2)))) ([(mO.getD 0 0),(mO.getD 1 0),(mO.getD 2 0),(mO.getD 3 0)]:List (BitVec 64))
def gJ (dB:Int) (fH:UInt8) (n1:Int) (jo:Int→List (BitVec 64)→Option (List (BitVec 64) × Int)):Nat→Int→List (BitVec 64)→Option (List (BitVec 64) × Int)
 | 0,_,_=>none
 | GN + 1,c2,mM=>
  if decide (c2≤(fH.toNat:Int)) then
   aA (fQ ([(mM.getD 0 0),(mM.getD 1 0),(mM.getD 2 0),(mM.getD 3 0)]:List (BitVec 64)) (Ft.byteOf c2)) fun y2=>
   gJ dB fH n1 jo GN (bE (c2 + 1)) ([(y2.getD 0 0),(y2.getD 1 0),(y2.getD 2 0),(y2.getD 3 0)]:List (BitVec 64))
  else
   jo (bE (dB + n1)) ([(mM.getD 0 0),(mM.getD 1 0),(mM.getD 2 0),(mM.getD 3 0)]:List (BitVec 64))
def bY (s1:Str):Nat→Int→List (BitVec 64)→Option (List (BitVec 64) × Int)
 | 0,_,_=>none
 | bJ + 1,dB,bI=>
  aA (
    if dB == 1 then
     some true
    else
     if decide (dB < (s1.length:Int)) then
      aA (idx s1 dB) fun x1=>
      some ((x1.toNat:Int) != 93)
     else
      some false) fun b1=>
  if b1 then
   aA (sl s1 dB (s1.length:Int)) fun x2=>
   fV (iN x2) fun fH n1=>
   if n1 == 0 then
    some (([(bI.getD 0 0),(bI.getD 1 0),(bI.getD 2 0),(bI.getD 3 0)]:List (BitVec 64)),0)
   else
    aA (
      if decide ((bE (dB + n1)) < (s1.length:Int)) then
       aA (idx s1 (bE (dB + n1))) fun x3=>
       some ((x3.toNat:Int) == 45)
      else
       some false) fun b3=>
    if b3 then
     aA (sl s1 (bE ((bE (dB + n1)) + 1)) (s1.length:Int)) fun x4=>
     fV (iN x4) fun jT n2=>
     if (n2 == 0) || (decide ((jT.toNat:Int) < (fH.toNat:Int))) then
      some (([(bI.getD 0 0),(bI.getD 1 0),(bI.getD 2 0),(bI.getD 3 0)]:List (BitVec 64)),0)
     else
      gK dB n1 jT n2 (bY s1 bJ) BIG (fH.toNat:Int) ([(bI.getD 0 0),(bI.getD 1 0),(bI.getD 2 0),(bI.getD 3 0)]:List (BitVec 64))
    else
     gJ dB fH n1 (bY s1 bJ) BIG (fH.toNat:Int) ([(bI.getD 0 0),(bI.getD 1 0),(bI.getD 2 0),(bI.getD 3 0)]:List (BitVec 64))
  else
   if decide ((s1.length:Int)≤dB) then
    some (([(bI.getD 0 0),(bI.getD 1 0),(bI.getD 2 0),(bI.getD 3 0)]:List (BitVec 64)),0)
   else
    aA (g_ ([(bI.getD 0 0),(bI.getD 1 0),(bI.getD 2 0),(bI.getD 3 0)]:List (BitVec 64)) 47) fun y3=>
    some (([(y3.getD 0 0),(y3.getD 1 0),(y3.getD 2 0),(y3.getD 3 0)]:List (BitVec 64)),(bE (dB + 1)))
def pU (s1:Str):Option (List (BitVec 64) × Int):=
 bY s1 BIG 1 ([0,0,0,0]:List (BitVec 64))
def iR (c1:UInt8):Option aF:=
 aA (fQ ([0,0,0,0]:List (BitVec 64)) c1) fun y1=>
 some (aF.mk ([(y1.getD 0 0),(y1.getD 1 0),(y1.getD 2 0),(y1.getD 3 0)]:List (BitVec 64)) false true c1)
def ko (p1:Str):Option (aF × Int):=
 aA (idx p1 0) fun x1=>
 if (x1.toNat:Int) == 42 then
  aA (
    if decide (1 < (p1.length:Int)) then
     aA (idx p1 1) fun x2=>
     some ((x2.toNat:Int) == 42)
    else
     some false) fun b1=>
  if b1 then
   aA (jN true) fun x3=>
   some ((aF.mk ([(x3.getD 0 0),(x3.getD 1 0),(x3.getD 2 0),(x3.getD 3 0)]:List (BitVec 64)) true false 0),2)
  else
   aA (jN false) fun x4=>
   some ((aF.mk ([(x4.getD 0 0),(x4.getD 1 0),(x4.getD 2 0),(x4.getD 3 0)]:List (BitVec 64)) true false 0),1)
 else
  if (x1.toNat:Int) == 63 then
   aA (jN false) fun x5=>
   some ((aF.mk ([(x5.getD 0 0),(x5.getD 1 0),(x5.getD 2 0),(x5.getD 3 0)]:List (BitVec 64)) false false 0),1)
  else
   if (x1.toNat:Int) == 91 then
    fV (pU p1) fun x6 n1=>
    some ((aF.mk ([(x6.getD 0 0),(x6.getD 1 0),(x6.getD 2 0),(x6.getD 3 0)]:List (BitVec 64)) false false 0),n1)
   else
    if (x1.toNat:Int) == 92 then
     if decide ((p1.length:Int) < 2) then
      some ((aF.mk ([0,0,0,0]:List (BitVec 64)) false false 0),0)
     else
      aA (idx p1 1) fun x7=>
      aA (iR x7) fun x8=>
      some (x8,2)
    else
     aA (idx p1 0) fun x9=>
     aA (iR x9) fun Rm=>
     some (Rm,1)
def fJ :Nat→Str→List aF→Option (List aF × Int)
 | 0,_,_=>none
 | bJ + 1,p2,l1=>
  if !(p2 == ([]:Str)) then
   fV (ko p2) fun x1 n1=>
   if n1 == 0 then
    some ([],5)
   else
    aA (app l1 [x1]) fun l2=>
    aA (sl p2 n1 (p2.length:Int)) fun p3=>
    fJ bJ p3 l2
  else
   some (l1,0)
def nN (p1:Str):Option (List aF × Int):=
 if decide (4096 < (p1.length:Int)) then
  some ([],3)
 else
  fJ BIG p1 []
def gI (s1:List (BitVec 64)) (c1:UInt8):Option Bool:=
 aA (idx ([(s1.getD 0 0),(s1.getD 1 0),(s1.getD 2 0),(s1.getD 3 0)]:List (BitVec 64)) ((c1 / 64).toNat:Int)) fun e1=>
 aA (some ((e1 >>> (c1 % 64).toNat) &&& (1:BitVec 64))) fun x1=>
 some ((x1.toNat:Int) == 1)
def iQ (l1:List aF):Nat→Int→List Bool→Option (List Bool)
 | 0,_,_=>none
 | bJ + 1,i1,a1=>
  if decide (i1 < (l1.length:Int)) then
   aA (idx l1 i1) fun x1=>
   aA (idx a1 (bE (i1 + 1))) fun b1=>
   aA (
     if b1 then
      some true
     else
      aA (idx a1 i1) fun b2=>
      some (b2 && x1.many)) fun b3=>
   aA (some (List.set a1 (Int.toNat (bE (i1 + 1))) b3)) fun a2=>
   iQ l1 bJ (bE (i1 + 1)) a2
  else
   some a1
def kL (l1:List aF) (a1:List Bool):Option (List Bool):=
 iQ l1 BIG 0 a1
def sS (n1:Int):Option (List Bool):=if 0≤n1∧n1≤281474976710656 then some (List.replicate n1.toNat false) else none
def fK (l1:List aF) (s1:Str) (i1:Int) (a1:List Bool) (go:Int→List Bool→Option Bool):Nat→Int→List Bool→Option Bool
 | 0,_,_=>none
 | uq + 1,k1,tX=>
  if decide (k1 < (l1.length:Int)) then
   aA (idx l1 k1) fun x1=>
   aA (idx a1 k1) fun b1=>
   aA (
     if !b1 then
      some true
     else
      aA (idx s1 i1) fun c1=>
      aA (gI x1.set c1) fun b2=>
      some (!b2)) fun b3=>
   if b3 then
    fK l1 s1 i1 a1 go uq (bE (k1 + 1)) tX
   else
    if x1.many then
     aA (idx tX k1) fun b4=>
     aA (some (List.set tX (Int.toNat k1) true)) fun GL=>
     fK l1 s1 i1 a1 go uq (bE (k1 + 1)) GL
    else
     aA (idx tX (bE (k1 + 1))) fun b4=>
     aA (some (List.set tX (Int.toNat (bE (k1 + 1))) true)) fun GL=>
     fK l1 s1 i1 a1 go uq (bE (k1 + 1)) GL
  else
   aA (kL l1 tX) fun a2=>
   go (bE (i1 + 1)) a2
def eZ (l1:List aF) (s1:Str):Nat→Int→List Bool→Option Bool
 | 0,_,_=>none
 | bJ + 1,i1,a1=>
  if decide (i1 < (s1.length:Int)) then
   aA (sS (bE ((l1.length:Int) + 1))) fun tX=>
   fK l1 s1 i1 a1 (eZ l1 s1 bJ) BIG 0 tX
  else
   idx a1 (l1.length:Int)
def je (p1:Str) (s1:Str):Option Bool:=
 fV (nN p1) fun l1 e1=>
 if e1 != 0 then
  some false
 else
  aA (sS (bE ((l1.length:Int) + 1))) fun a0=>
  aA (idx a0 0) fun b0=>
  aA (some (List.set a0 (Int.toNat 0) true)) fun a1=>
  aA (kL l1 a1) fun a2=>
  eZ l1 s1 BIG 0 a2
def iT (aW:List Str) (s1:Str):Nat→Int→Option Bool
 | 0,_=>none
 | bJ + 1,i1=>
  if decide (0≤i1) then
   aA (idx aW i1) fun p1=>
   aA (
     if !(p1 == ([]:Str)) then
      aA (idx p1 0) fun x1=>
      some ((x1.toNat:Int) == 33)
     else
      some false) fun b1=>
   if b1 then
    aA (sl p1 1 (p1.length:Int)) fun p2=>
    aA (je p2 s1) fun x2=>
    if x2 then
     some (!b1)
    else
     iT aW s1 bJ (bE (i1 - 1))
   else
    aA (je p1 s1) fun x3=>
    if x3 then
     some (!b1)
    else
     iT aW s1 bJ (bE (i1 - 1))
  else
   some false
def mW (aW:List Str) (s1:Str):Option Bool:=
 iT aW s1 BIG (bE ((aW.length:Int) - 1))
def dS {β:Type} (y:β→aB→Option (Bool × β)) (fs1:List aB) (ps1:List Str):Nat→β→Int→Option β
 | 0,_,_=>none
 | bJ + 1,s1,i1=>
  if decide (i1 < (fs1.length:Int)) then
   aA (idx fs1 i1) fun f1=>
   aA (mW ps1 f1.path) fun b1=>
   if b1 then
    fV (y s1 f1) fun b2 s2=>
    if !b2 then
     some s2
    else
     dS y fs1 ps1 bJ s2 (bE (i1 + 1))
   else
    dS y fs1 ps1 bJ s1 (bE (i1 + 1))
  else
   some s1
def jU {β:Type} (y:β→aB→Option (Bool × β)) (s1:β) (fs1:List aB) (ps1:List Str):Option β:=dS y fs1 ps1 BIG s1 0
def kM (gy:BitVec 32) (uy:BitVec 32) (i1:BitVec 32):Option (BitVec 32):=
 aA (some ((gy ^^^ uy) * (2654435761:BitVec 32))) fun x1=>
 some ((x1 + i1) ^^^ ((x1 + i1) >>> 16))
def gL (key1:BitVec 64):Nat→BitVec 32→BitVec 32→Int→Option (BitVec 64)
 | 0,_,_,_=>none
 | bJ + 1,l1,gy,i1=>
  if decide (i1 < 4) then
   if ((i1:Int).tmod 2) == 1 then
    aA (kM gy (BitVec.setWidth 32 (key1 >>> 32)) (BitVec.ofInt 32 (bE (i1 + 1)))) fun x2=>
    gL key1 bJ gy (l1 ^^^ x2) (bE (i1 + 1))
   else
    aA (kM gy (BitVec.setWidth 32 key1) (BitVec.ofInt 32 (bE (i1 + 1)))) fun x3=>
    gL key1 bJ gy (l1 ^^^ x3) (bE (i1 + 1))
  else
   some (((BitVec.setWidth 64 l1) <<< 32) ||| (BitVec.setWidth 64 gy))
def jK (key1:BitVec 64) (x1:BitVec 64):Option (BitVec 64):=
 gL key1 BIG (BitVec.setWidth 32 (x1 >>> 32)) (BitVec.setWidth 32 x1) 0
def h_ (b2:List UInt8) (x2:BitVec 64) (x3:List UInt8) (rR:List UInt8→BitVec 64→Option (BitVec 64)):Nat→BitVec 64→Int→Option (BitVec 64)
 | 0,_,_=>none
 | uq + 1,g1,i1=>
  if decide (i1 < (x3.length:Int)) then
   aA (idx x3 i1) fun c1=>
   aA (MK (decide (0≤(bE (8 * i1))))) fun _=>
   aA (some (g1 ||| ((BitVec.setWidth 64 c1.toBitVec) <<< (Int.toNat (bE (8 * i1)))))) fun g2=>
   h_ b2 x2 x3 rR uq g2 (bE (i1 + 1))
  else
   aA (jK g1 x2) fun x4=>
   aA (sl b2 (if (b2.length:Int) < 8 then (b2.length:Int) else 8) (b2.length:Int)) fun b3=>
   rR b3 (x4 ^^^ g1)
def dW :Nat→List UInt8→BitVec 64→Option (BitVec 64)
 | 0,_,_=>none
 | bJ + 1,b2,x2=>
  if decide (0 < (b2.length:Int)) then
   aA (sl b2 0 (if (b2.length:Int) < 8 then (b2.length:Int) else 8)) fun x3=>
   h_ b2 x2 x3 (dW bJ) BIG 0 0
  else
   some x2
def jf (b1:List UInt8):Option (BitVec 64):=
 aA (jK (BitVec.ofInt 64 (b1.length:Int)) 0) fun x1=>
 dW BIG b1 x1
def iX (x2:Int) (d1:BitVec 64) (tY:List UInt8→Int→Option (BitVec 64)):Nat→List UInt8→Int→Option (BitVec 64)
 | 0,_,_=>none
 | uq + 1,b3,i1=>
  if decide (i1 < 8) then
   aA (MK (decide (0≤(bE (8 * i1))))) fun _=>
   aA (app b3 ([(UInt8.ofBitVec (BitVec.setWidth 8 (d1 >>> (Int.toNat (bE (8 * i1))))))]:List UInt8)) fun b4=>
   iX x2 d1 tY uq b4 (bE (i1 + 1))
  else
   tY b3 (bE (x2 + 1))
def fT (bU:List (BitVec 64)):Nat→List UInt8→Int→Option (BitVec 64)
 | 0,_,_=>none
 | bJ + 1,b2,x2=>
  if decide (x2 < (bU.length:Int)) then
   aA (idx bU x2) fun d1=>
   iX x2 d1 (fT bU bJ) BIG b2 0
  else
   jf b2
def kN (lU:Str) (bU:List (BitVec 64)):Option (BitVec 64):=
 aA (app ([]:Str) lU) fun x1=>
 aA (app x1 ([0]:List UInt8)) fun b1=>
 fT bU BIG b1 0
def gQ (s1:List (BitVec 64)) (x1:aB):Option (Bool × List (BitVec 64)):=
 aA (app ([]:Str) x1.path) fun b1=>
 aA (jf b1) fun d1=>
 aA (app s1 ([d1,x1.digest]:List (BitVec 64))) fun s2=>
 some (true,s2)
def jg (dx:List aB) (aW:List Str):Option (BitVec 64):=
 aA (jU gQ [] dx aW) fun bU=>
 kN ([102,105,108,101,115]:Str) bU
def gT (p1:Str) (dB:Int):Option UInt8:=
 if decide (dB < (p1.length:Int)) then
  idx p1 dB
 else
  some 0
def lM (p1:Str) (dB:Int):Option (UInt8 × Int × Bool):=
 aA (
   if decide (dB < (p1.length:Int)) then
    aA (idx p1 dB) fun x1=>
    some ((x1.toNat:Int) == 92)
   else
    some false) fun b1=>
 if b1 then
  aA (gT p1 (bE (dB + 1))) fun x2=>
  some (x2,(bE ((bE (dB + 1)) + 1)),(decide ((bE (dB + 1)) < (p1.length:Int))))
 else
  aA (
    if decide ((p1.length:Int)≤dB) then
     some true
    else
     aA (idx p1 dB) fun x3=>
     some ((x3.toNat:Int) == 93)) fun b2=>
  aA (
    if b2 then
     some true
    else
     aA (idx p1 dB) fun x4=>
     some ((x4.toNat:Int) == 45)) fun b3=>
  if b3 then
   some (0,dB,false)
  else
   aA (idx p1 dB) fun x5=>
   some (x5,(bE (dB + 1)),true)
def jB (p1:Str):Nat→Int→aj→Option (aj × Int × Bool)
 | 0,_,_=>none
 | bJ + 1,at2,e1=>
  aA (gT p1 at2) fun x1=>
  if ((x1.toNat:Int) != 93) || (decide ((p1.length:Int)≤at2)) then
   oK (lM p1 at2) fun lo1 kg ok1=>
   if !ok1 then
    some (e1,at2,false)
   else
    aA (gT p1 kg) fun x2=>
    if (x2.toNat:Int) == 45 then
     oK (lM p1 (bE (kg + 1))) fun hi1 Bq QJ=>
     if (!QJ) || (decide ((hi1.toNat:Int) < (lo1.toNat:Int))) then
      some (e1,at2,false)
     else
      aA (app e1.items [([lo1,hi1]:List UInt8)]) fun x3=>
      jB p1 bJ Bq (aj.mk e1.kind x3)
    else
     aA (app e1.items [([lo1,lo1]:List UInt8)]) fun x4=>
     jB p1 bJ kg (aj.mk e1.kind x4)
  else
   some (e1,(bE (at2 + 1)),(decide (0 < (e1.items.length:Int))))
def vJ (p1:Str) (dB:Int):Option (aj × Int × Bool):=
 jB p1 BIG dB (aj.mk 4 [])
def dA (p1:Str):Nat→List aj→Int→Option (List aj × Bool)
 | 0,_,_=>none
 | bJ + 1,bI,dB=>
  if decide (dB < (p1.length:Int)) then
   aA (idx p1 dB) fun x1=>
   aA (idx p1 dB) fun x2=>
   aA (idx p1 dB) fun x3=>
   if (x3.toNat:Int) == 42 then
    aA (gT p1 (bE (dB + 1))) fun x4=>
    if (x4.toNat:Int) == 42 then
     aA (app bI [(aj.mk 1 [])]) fun mO=>
     dA p1 bJ mO (bE (dB + 2))
    else
     aA (app bI [(aj.mk 2 [])]) fun mM=>
     dA p1 bJ mM (bE (dB + 1))
   else
    if (x3.toNat:Int) == 63 then
     aA (app bI [(aj.mk 3 [])]) fun Om=>
     dA p1 bJ Om (bE (dB + 1))
    else
     if (x3.toNat:Int) == 91 then
      oK (vJ p1 (bE (dB + 1))) fun x5 kg ok1=>
      if !ok1 then
       some ([],false)
      else
       aA (app bI [x5]) fun Ol=>
       dA p1 bJ Ol kg
     else
      if (x3.toNat:Int) == 92 then
       aA (gT p1 (bE (dB + 1))) fun x6=>
       aA (gT p1 (bE (dB + 1))) fun x7=>
       if !(decide ((bE (dB + 1)) < (p1.length:Int))) then
        some ([],false)
       else
        aA (app bI [(aj.mk 5 [([x6,x7]:List UInt8)])]) fun Oj=>
        dA p1 bJ Oj (bE (dB + 2))
      else
       aA (app bI [(aj.mk 5 [([x1,x2]:List UInt8)])]) fun Oi=>
       dA p1 bJ Oi (bE (dB + 1))
  else
   some (bI,true)
def vK (p1:Str):Option (List aj × Bool):=
 if decide (4096 < (p1.length:Int)) then
  some ([],false)
 else
  dA p1 BIG [] 0
def uP (e1:aj):Option Bool:=
 some ((e1.kind == 1) || (e1.kind == 2))
def l8 (e1:aj) (c1:UInt8):Nat→Int→Option Bool
 | 0,_=>none
 | bJ + 1,i1=>
  if decide (i1 < (e1.items.length:Int)) then
   aA (idx e1.items i1) fun e2=>
   aA (
     if decide (((e2.getD 0 0).toNat:Int)≤(c1.toNat:Int)) then
      aA (idx e1.items i1) fun e3=>
      some (decide ((c1.toNat:Int)≤((e3.getD 1 0).toNat:Int)))
     else
      some false) fun b1=>
   if b1 then
    some true
   else
    l8 e1 c1 bJ (bE (i1 + 1))
  else
   some false
def rH (e1:aj) (c1:UInt8):Option Bool:=
 if e1.kind == 1 then
  some true
 else
  if (e1.kind != 5) && ((c1.toNat:Int) == 47) then
   some false
  else
   if (e1.kind == 2) || (e1.kind == 3) then
    some true
   else
    l8 e1 c1 BIG 0
def iy (l1:List aj) (go:List Bool→Option Bool):Nat→List Bool→Int→Option Bool
 | 0,_,_=>none
 | uq + 1,vN,i1=>
  if decide (i1 < (l1.length:Int)) then
   aA (idx vN i1) fun b1=>
   aA (
     if b1 then
      aA (idx l1 i1) fun x1=>
      uP x1
     else
      some false) fun b2=>
   if b2 then
    aA (idx vN (bE (i1 + 1))) fun b3=>
    aA (some (List.set vN (Int.toNat (bE (i1 + 1))) true)) fun QH=>
    iy l1 go uq QH (bE (i1 + 1))
   else
    iy l1 go uq vN (bE (i1 + 1))
  else
   go vN
def gM (l1:List aj) (s1:Str) (k1:Int) (vN:List Bool) (go:List Bool→Option Bool):Nat→List Bool→Int→Option Bool
 | 0,_,_=>none
 | GN + 1,tX,i1=>
  if decide (i1 < (l1.length:Int)) then
   aA (idx vN i1) fun b1=>
   aA (
     if b1 then
      aA (idx l1 i1) fun x1=>
      aA (idx s1 k1) fun c1=>
      rH x1 c1
     else
      some false) fun b2=>
   if b2 then
    aA (idx l1 i1) fun x2=>
    aA (uP x2) fun b3=>
    if b3 then
     aA (idx tX i1) fun b4=>
     aA (some (List.set tX (Int.toNat i1) true)) fun GL=>
     gM l1 s1 k1 vN go GN GL (bE (i1 + 1))
    else
     aA (idx tX (bE (i1 + 1))) fun b4=>
     aA (some (List.set tX (Int.toNat (bE (i1 + 1))) true)) fun GL=>
     gM l1 s1 k1 vN go GN GL (bE (i1 + 1))
   else
    gM l1 s1 k1 vN go GN tX (bE (i1 + 1))
  else
   go tX
def kZ (l1:List aj) (s1:Str) (k1:Int) (go:List Bool→Option Bool) (vN:List Bool):Option Bool:=
 if k1 == (s1.length:Int) then
  idx vN (l1.length:Int)
 else
  aA (sS (bE ((l1.length:Int) + 1))) fun tX=>
  gM l1 s1 k1 vN go BIG tX 0
def eY (l1:List aj) (s1:Str):Nat→Int→List Bool→Option Bool
 | 0,_,_=>none
 | bJ + 1,k1,vN=>
  if decide (k1≤(s1.length:Int)) then
   iy l1 (kZ l1 s1 k1 (eY l1 s1 bJ (bE (k1 + 1)))) BIG vN 0
  else
   some false
def qD (l1:List aj) (s1:Str):Option Bool:=
 aA (sS (bE ((l1.length:Int) + 1))) fun a0=>
 aA (idx a0 0) fun b0=>
 aA (some (List.set a0 (Int.toNat 0) true)) fun a1=>
 eY l1 s1 BIG 0 a1
def o7 (p1:Str) (s1:Str):Option Bool:=
 fV (vK p1) fun l1 ok1=>
 if ok1 then
  qD l1 s1
 else
  some false
def jC (aW:List Str) (s1:Str):Nat→Bool→Int→Option Bool
 | 0,_,_=>none
 | bJ + 1,Aq,i1=>
  if decide (i1 < (aW.length:Int)) then
   aA (idx aW i1) fun p1=>
   aA (gT p1 0) fun x1=>
   if (x1.toNat:Int) == 33 then
    aA (sl p1 1 (p1.length:Int)) fun x2=>
    aA (o7 x2 s1) fun x3=>
    if x3 then
     jC aW s1 bJ false (bE (i1 + 1))
    else
     jC aW s1 bJ Aq (bE (i1 + 1))
   else
    aA (o7 p1 s1) fun x4=>
    if x4 then
     jC aW s1 bJ true (bE (i1 + 1))
    else
     jC aW s1 bJ Aq (bE (i1 + 1))
  else
   some Aq
def xP (aW:List Str) (s1:Str):Option Bool:=
 jC aW s1 BIG false 0
def o8 (gy:BitVec 64) (uy:BitVec 64) (i1:BitVec 64):Option (BitVec 64):=
 aA (some ((gy ^^^ uy) * (2654435761:BitVec 64))) fun x1=>
 aA (some (((x1 + i1) % (4294967296:BitVec 64)) / (65536:BitVec 64))) fun x2=>
 some (((x1 + i1) % (4294967296:BitVec 64)) ^^^ x2)
def lQ (key1:BitVec 64):Nat→BitVec 64→BitVec 64→BitVec 64→Option (BitVec 64)
 | 0,_,_,_=>none
 | bJ + 1,l1,gy,i1=>
  if decide ((i1.toNat:Int)≤4) then
   if ((i1 % (2:BitVec 64)).toNat:Int) == 0 then
    aA (o8 gy (key1 / (4294967296:BitVec 64)) i1) fun x2=>
    lQ key1 bJ gy (l1 ^^^ x2) (i1 + (1:BitVec 64))
   else
    aA (o8 gy (key1 % (4294967296:BitVec 64)) i1) fun x3=>
    lQ key1 bJ gy (l1 ^^^ x3) (i1 + (1:BitVec 64))
  else
   some ((l1 * (4294967296:BitVec 64)) + gy)
def vM (key1:BitVec 64) (x1:BitVec 64):Option (BitVec 64):=
 lQ key1 BIG (x1 / (4294967296:BitVec 64)) (x1 % (4294967296:BitVec 64)) 1
def jD (b1:List UInt8) (dB:Int):Nat→BitVec 64→Int→Option (BitVec 64)
 | 0,_,_=>none
 | bJ + 1,g1,i1=>
  if decide (0≤i1) then
   if decide ((bE (dB + i1)) < (b1.length:Int)) then
    aA (idx b1 (bE (dB + i1))) fun e1=>
    aA (some ((g1 * (256:BitVec 64)) + (BitVec.setWidth 64 e1.toBitVec))) fun g2=>
    jD b1 dB bJ g2 (bE (i1 - 1))
   else
    jD b1 dB bJ (g1 * (256:BitVec 64)) (bE (i1 - 1))
  else
   some g1
def rJ (b1:List UInt8) (dB:Int):Option (BitVec 64):=
 jD b1 dB BIG 0 7
def lN (b1:List UInt8):Nat→BitVec 64→Int→Option (BitVec 64)
 | 0,_,_=>none
 | bJ + 1,x2,dB=>
  if decide (dB < (b1.length:Int)) then
   aA (rJ b1 dB) fun g1=>
   aA (vM g1 x2) fun x3=>
   lN b1 bJ (x3 ^^^ g1) (bE (dB + 8))
  else
   some x2
def vL (b1:List UInt8):Option (BitVec 64):=
 aA (vM (BitVec.ofInt 64 (b1.length:Int)) 0) fun x1=>
 lN b1 BIG x1 0
def o9 (i2:Int) (yj:List UInt8→Int→Option (BitVec 64)):Nat→List UInt8→BitVec 64→Int→Option (BitVec 64)
 | 0,_,_,_=>none
 | GN + 1,b5,n2,uy=>
  if decide (uy < 8) then
   aA (app b5 ([(UInt8.ofBitVec (BitVec.setWidth 8 (n2 % (256:BitVec 64))))]:List UInt8)) fun b6=>
   o9 i2 yj GN b6 (n2 / (256:BitVec 64)) (bE (uy + 1))
  else
   yj b5 (bE (i2 + 1))
def kH (bU:List (BitVec 64)):Nat→List UInt8→Int→Option (BitVec 64)
 | 0,_,_=>none
 | uq + 1,b4,i2=>
  if decide (i2 < (bU.length:Int)) then
   aA (idx bU i2) fun n1=>
   o9 i2 (kH bU uq) BIG b4 n1 0
  else
   vL b4
def o_ (lU:Str) (bU:List (BitVec 64)):Nat→List UInt8→Int→Option (BitVec 64)
 | 0,_,_=>none
 | bJ + 1,b1,i1=>
  if decide (i1 < (lU.length:Int)) then
   aA (idx lU i1) fun x1=>
   aA (app b1 ([x1]:List UInt8)) fun b2=>
   o_ lU bU bJ b2 (bE (i1 + 1))
  else
   aA (app b1 ([0]:List UInt8)) fun b3=>
   kH bU BIG b3 0
def yV (lU:Str) (bU:List (BitVec 64)):Option (BitVec 64):=
 o_ lU bU BIG [] 0
def j4 (dx:List aB) (aW:List Str):Nat→List (BitVec 64)→Int→Option (BitVec 64)
 | 0,_,_=>none
 | bJ + 1,bU,i1=>
  if decide (i1 < (dx.length:Int)) then
   aA (idx dx i1) fun e1=>
   aA (xP aW e1.path) fun x1=>
   if x1 then
    aA (idx dx i1) fun e2=>
    aA (app ([]:Str) e2.path) fun x2=>
    aA (vL x2) fun x3=>
    aA (idx dx i1) fun e3=>
    aA (app bU ([x3,e3.digest]:List (BitVec 64))) fun He=>
    j4 dx aW bJ He (bE (i1 + 1))
   else
    j4 dx aW bJ bU (bE (i1 + 1))
  else
   yV ([102,105,108,101,115]:Str) bU
def uO (dx:List aB) (aW:List Str):Option (BitVec 64):=
 j4 dx aW BIG [] 0
def jm (s1:Str) (mG:Str):Option Bool:=
 if decide ((mG.length:Int)≤(s1.length:Int)) then
  aA (sl s1 0 (mG.length:Int)) fun x1=>
  some (x1 == mG)
 else
  some false
def strings_HasPrefix (s1:Str) (mG:Str):Option Bool:=
 jm s1 mG
def gP (s1:Str):Nat→Int→Int→Option Int
 | 0,_,_=>none
 | bJ + 1,at2,iB=>
  if decide (at2 < (s1.length:Int)) then
   aA (idx s1 at2) fun x1=>
   if (x1.toNat:Int) == 34 then
    none
   else
    if (x1.toNat:Int) == 123 then
     gP s1 bJ (bE (at2 + 1)) (bE (iB + 1))
    else
     if (x1.toNat:Int) == 125 then
      if iB == 0 then
       some at2
      else
       gP s1 bJ (bE (at2 + 1)) (bE (iB - 1))
     else
      gP s1 bJ (bE (at2 + 1)) iB
  else
   some (-1)
def pQ (s1:Str) (dB:Int):Option Int:=
 gP s1 BIG dB 0
def pO (gy:Int):Option Bool:=
 some ((gy == 32) || (gy == 9))
def mR (s1:Str) (u_:UInt8→Option Bool):Nat→Int→Option Int
 | 0,_=>none
 | bJ + 1,at2=>
  aA (
    if decide (at2 < (s1.length:Int)) then
     aA (idx s1 at2) fun x1=>
     u_ x1
    else
     some false) fun b1=>
  if b1 then
   mR s1 u_ bJ (bE (at2 + 1))
  else
   some at2
def qF (s1:Str) (dB:Int) (u_:UInt8→Option Bool):Option Int:=
 mR s1 u_ BIG dB
def mU (c1:UInt8):Option Bool:=
 some ((c1.toNat:Int) != 10)
def oQ (c1:UInt8):Option Bool:=
 some ((((decide (97≤(c1.toNat:Int))) && (decide ((c1.toNat:Int)≤122))) || ((decide (65≤(c1.toNat:Int))) && (decide ((c1.toNat:Int)≤90)))) || ((c1.toNat:Int) == 95))
def qG (c1:UInt8):Option Bool:=
 some ((decide (48≤(c1.toNat:Int))) && (decide ((c1.toNat:Int)≤57)))
def oP (c1:UInt8):Option Bool:=
 aA (oQ c1) fun x1=>
 if x1 then
  some true
 else
  qG c1
def wW (iq:Str) (dB:Int):Option (aR × Int × Int):=
 aA (qF iq dB oP) fun yD=>
 if decide (64 < (bE (yD - dB))) then
  some ((aR.mk 0 ([]:Str) 0),0,3)
 else
  aA (sl iq dB yD) fun x1=>
  some ((aR.mk 1 x1 dB),yD,0)
def uW (iq:Str) (dB:Int):Option (aR × Int × Int):=
 aA (idx iq dB) fun c1=>
 aA (oQ c1) fun x1=>
 if x1 then
  wW iq dB
 else
  aA (qG c1) fun x5=>
  if x5 then
   none
  else
   if (c1.toNat:Int) == 34 then
    none
   else
    none
def gu (iq:Str):Nat→List aR→Int→Int→Nat→Option (List aR × Int × Int)
 | 0,_,_,_,_=>none
 | bJ + 1,bI,kg,iB,pos1=>
  if decide (pos1 < iq.length) then
   aA (
     if decide ((pos1:Int) < kg) then
      some true
     else
      pO ((dec iq pos1).1:Int)) fun b1=>
   if b1 then
    gu iq bJ bI kg iB (pos1 + (dec iq pos1).2)
   else
    if ((dec iq pos1).1:Int) == 35 then
     aA (qF iq (pos1:Int) mU) fun Bq=>
     gu iq bJ bI Bq iB (pos1 + (dec iq pos1).2)
    else
     if ((dec iq pos1).1:Int) == 10 then
      aA (
        if iB == 0 then
         if (bI.length:Int) == 0 then
          some true
         else
          aA (idx bI (bE ((bI.length:Int) - 1))) fun e1=>
          some (e1.kind != 5)
        else
         some false) fun b2=>
      if b2 then
       aA (app bI [(aR.mk 5 ([]:Str) (pos1:Int))]) fun mO=>
       gu iq bJ mO kg iB (pos1 + (dec iq pos1).2)
      else
       gu iq bJ bI kg iB (pos1 + (dec iq pos1).2)
     else
      oK (uW iq (pos1:Int)) fun x2 yD e2=>
      if e2 != 0 then
       some ([],(pos1:Int),e2)
      else
       if x2.kind == 4 then
        none
       else
        aA (app bI [x2]) fun mM=>
        gu iq bJ mM yD iB (pos1 + (dec iq pos1).2)
  else
   some (bI,0,0)
def sU (iq:Str):Option (List aR × Int × Int):=
 if decide (65536 < (iq.length:Int)) then
  some ([],0,3)
 else
  gu iq BIG [] 0 0 0
def nX (c1:UInt8):Option Bool:=
 some ((((decide (97≤(c1.toNat:Int))) && (decide ((c1.toNat:Int)≤122))) || ((decide (65≤(c1.toNat:Int))) && (decide ((c1.toNat:Int)≤90)))) || ((c1.toNat:Int) == 95))
def sM (c1:UInt8):Option Bool:=
 some ((decide (48≤(c1.toNat:Int))) && (decide ((c1.toNat:Int)≤57)))
def mI (s1:Str):Nat→Int→Option Bool
 | 0,_=>none
 | bJ + 1,i1=>
  if decide (i1 < (s1.length:Int)) then
   aA (idx s1 i1) fun x3=>
   aA (nX x3) fun x4=>
   aA (
     if !x4 then
      aA (idx s1 i1) fun x5=>
      aA (sM x5) fun x6=>
      some (!x6)
     else
      some false) fun b2=>
   if b2 then
    some false
   else
    mI s1 bJ (bE (i1 + 1))
  else
   some true
def qE (s1:Str):Option Bool:=
 aA (
   if (decide ((s1.length:Int) < 1)) || (decide (64 < (s1.length:Int))) then
    some true
   else
    aA (idx s1 0) fun x1=>
    aA (nX x1) fun x2=>
    some (!x2)) fun b1=>
 if b1 then
  some false
 else
  mI s1 BIG 0
def uR (t1:aR):Option Bool:=
 if t1.kind == 1 then
  qE t1.text
 else
  if t1.kind == 2 then
   none
  else
   if t1.kind == 3 then
    some (decide ((t1.text.length:Int)≤4096))
   else
    if t1.kind == 4 then
     some true
    else
     some false
def iA (gy:ah):Option (aR × ah):=
 aA (
   if decide (gy.at_ < (gy.ts.length:Int)) then
    aA (idx gy.ts gy.at_) fun e1=>
    uR e1
   else
    some false) fun b1=>
 if b1 then
  aA (idx gy.ts gy.at_) fun e2=>
  some (e2,gy)
 else
  some ((aR.mk 0 ([]:Str) 0),gy)
def nI (gy:ah) (op1:Str):Option (Bool × ah):=
 fV (iA gy) fun x1 y1=>
 some (((x1.kind == 4) && (x1.text == op1)),y1)
def bX (gy:ah) (op1:Str):Option (Bool × ah):=
 fV (nI gy op1) fun x1 y1=>
 if !x1 then
  some (false,y1)
 else
  some (true,(ah.mk y1.ts (bE (y1.at_ + 1))))
def jF (gy:ah):Option (ig ay aR × ah):=
 if decide ((gy.ts.length:Int)≤gy.at_) then
  none
 else
  fV (iA gy) fun x1 y1=>
  if x1.kind == 0 then
   none
  else
   some (.ok x1,y1)
def om (s1:Str):Option Bool:=
 some (((s1 == ([116,114,117,101]:Str)) || (s1 == ([102,97,108,115,101]:Str))) || (s1 == ([110,117,108,108]:Str)))
def lS (gy:ah) (s1:Str):Option (ig ay av × ah):=
 if s1 == ([110,117,108,108]:Str) then
  none
 else
  aA (om s1) fun x1=>
  if x1 then
   none
  else
   fV (bX gy ([40]:Str)) fun x2 y1=>
   if x2 then
    none
   else
    some (.ok (av.mk 2 s1 (au.mk 0 false 0 ([]:Str) [] []) [] []),y1)
def lF (op1:Str):Option Int:=
 if op1 == ([124,124]:Str) then
  some 2
 else
  if op1 == ([38,38]:Str) then
   some 3
  else
   if op1 == ([61,61]:Str) then
    some 4
   else
    if op1 == ([33,61]:Str) then
     some 4
    else
     if op1 == ([60]:Str) then
      some 4
     else
      if op1 == ([60,61]:Str) then
       some 4
      else
       if op1 == ([62]:Str) then
        some 4
       else
        if op1 == ([62,61]:Str) then
         some 4
        else
         if op1 == ([43]:Str) then
          some 5
         else
          if op1 == ([45]:Str) then
           some 5
          else
           if op1 == ([42]:Str) then
            some 6
           else
            if op1 == ([47]:Str) then
             some 6
            else
             if op1 == ([37]:Str) then
              some 6
             else
              some 0
def iK (aD:ah→Option (ig ay av × ah)) (aC:ah→Int→Option (ig ay av × ah)) (aH:ah→Option (ig ay av × ah)) (aI:ah→Option (ig ay av × ah)) (aP:ah→Option (ig ay av × ah)) (gy:ah):Option (ig ay av × ah):=
 kE (aC gy 2) (fun e1 y2=>some (.bad e1,y2)) fun x1 y1=>
 fV (bX y1 ([63]:Str)) fun x2 y3=>
 if !x2 then
  some (.ok x1,y3)
 else
  kE (aD y3) (fun e2 y5=>some (.bad e2,y5)) fun x3 y4=>
  none
def fO (aC:ah→Int→Option (ig ay av × ah)) (n1:Int):Nat→av→ah→Option (ig ay av × ah)
 | 0,_,_=>none
 | bJ + 1,e3,y5=>
  fV (iA y5) fun x3 y6=>
  aA (
    if x3.kind != 4 then
     some true
    else
     aA (lF x3.text) fun x4=>
     some (x4 != n1)) fun b1=>
  if b1 then
   some (.ok e3,y6)
  else
   kE (aC (ah.mk y6.ts (bE (y6.at_ + 1))) (bE (n1 + 1))) (fun e4 y8=>some (.bad e4,y8)) fun x5 y7=>
   if n1 == 4 then
    some (.ok (av.mk 7 x3.text (au.mk 0 false 0 ([]:Str) [] []) [e3,x5] []),y7)
   else
    fO aC n1 bJ (av.mk 7 x3.text (au.mk 0 false 0 ([]:Str) [] []) [e3,x5] []) y7
def iJ (aD:ah→Option (ig ay av × ah)) (aC:ah→Int→Option (ig ay av × ah)) (aH:ah→Option (ig ay av × ah)) (aI:ah→Option (ig ay av × ah)) (aP:ah→Option (ig ay av × ah)) (gy:ah) (n1:Int):Option (ig ay av × ah):=
 if n1 == 7 then
  kE (aH gy) (fun e1 y2=>some (.bad e1,y2)) fun x1 y1=>
  some (.ok x1,y1)
 else
  kE (aC gy (bE (n1 + 1))) (fun e2 y4=>some (.bad e2,y4)) fun x2 y3=>
  fO aC n1 BIG x2 y3
def gV (aH:ah→Option (ig ay av × ah)) (aI:ah→Option (ig ay av × ah)):Nat→Int→ah→Option (ig ay av × ah)
 | 0,_,_=>none
 | bJ + 1,x1,y1=>
  if decide (x1 < (([([33]:Str),([45]:Str)]:List Str).length:Int)) then
   aA (idx ([([33]:Str),([45]:Str)]:List Str) x1) fun op1=>
   fV (bX y1 op1) fun x2 y2=>
   if x2 then
    kE (aH y2) (fun e1 y4=>some (.bad e1,y4)) fun x3 y3=>
    some (.ok (av.mk 6 op1 (au.mk 0 false 0 ([]:Str) [] []) [x3] []),y3)
   else
    gV aH aI bJ (bE (x1 + 1)) y2
  else
   kE (aI y1) (fun e2 y6=>some (.bad e2,y6)) fun x4 y5=>
   some (.ok x4,y5)
def jQ (aD:ah→Option (ig ay av × ah)) (aC:ah→Int→Option (ig ay av × ah)) (aH:ah→Option (ig ay av × ah)) (aI:ah→Option (ig ay av × ah)) (aP:ah→Option (ig ay av × ah)) (gy:ah):Option (ig ay av × ah):=
 gV aH aI BIG 0 gy
def gW (aD:ah→Option (ig ay av × ah)):Nat→av→ah→Option (ig ay av × ah)
 | 0,_,_=>none
 | bJ + 1,e2,y3=>
  fV (bX y3 ([46]:Str)) fun x2 y4=>
  if x2 then
   kE (jF y4) (fun e3 y6=>some (.bad e3,y6)) fun x3 y5=>
   aA (
     if x3.kind != 1 then
      some true
     else
      om x3.text) fun b1=>
   if b1 then
    none
   else
    gW aD bJ (av.mk 3 x3.text (au.mk 0 false 0 ([]:Str) [] []) [e2] []) (ah.mk y5.ts (bE (y5.at_ + 1)))
  else
   fV (bX y4 ([91]:Str)) fun x5 y7=>
   if x5 then
    kE (aD y7) (fun e4 y9=>some (.bad e4,y9)) fun x6 y8=>
    none
   else
    some (.ok e2,y7)
def jR (aD:ah→Option (ig ay av × ah)) (aC:ah→Int→Option (ig ay av × ah)) (aH:ah→Option (ig ay av × ah)) (aI:ah→Option (ig ay av × ah)) (aP:ah→Option (ig ay av × ah)) (gy:ah):Option (ig ay av × ah):=
 kE (aP gy) (fun e1 y2=>some (.bad e1,y2)) fun x1 y1=>
 gW aD BIG x1 y1
def j6 (aD:ah→Option (ig ay av × ah)) (aC:ah→Int→Option (ig ay av × ah)) (aH:ah→Option (ig ay av × ah)) (aI:ah→Option (ig ay av × ah)) (aP:ah→Option (ig ay av × ah)) (gy:ah):Option (ig ay av × ah):=
 kE (jF gy) (fun e1 y2=>some (.bad e1,y2)) fun x1 y1=>
 if x1.kind == 2 then
  none
 else
  if x1.kind == 3 then
   none
  else
   if x1.kind == 1 then
    kE (lS (ah.mk y1.ts (bE (y1.at_ + 1))) x1.text) (fun e2 y4=>some (.bad e2,y4)) fun x2 y3=>
    some (.ok x2,y3)
   else
    fV (bX y1 ([40]:Str)) fun x3 y5=>
    if x3 then
     kE (aD y5) (fun e3 y7=>some (.bad e3,y7)) fun x4 y6=>
     none
    else
     fV (bX y5 ([91]:Str)) fun x5 y8=>
     if x5 then
      none
     else
      fV (bX y8 ([123]:Str)) fun x6 y9=>
      if x6 then
       none
      else
       none
mutual
def aY :Nat→ah→Option (ig ay av × ah)
 | 0,_=>none
 | k + 1,fq=>iK (aY k) (aX k) (bF k) (bG k) (bH k) fq
def aX :Nat→ah→Int→Option (ig ay av × ah)
 | 0,_,_=>none
 | k + 1,fq,JQ=>iJ (aY k) (aX k) (bF k) (bG k) (bH k) fq JQ
def bF :Nat→ah→Option (ig ay av × ah)
 | 0,_=>none
 | k + 1,fq=>jQ (aY k) (aX k) (bF k) (bG k) (bH k) fq
def bG :Nat→ah→Option (ig ay av × ah)
 | 0,_=>none
 | k + 1,fq=>jR (aY k) (aX k) (bF k) (bG k) (bH k) fq
def bH :Nat→ah→Option (ig ay av × ah)
 | 0,_=>none
 | k + 1,fq=>j6 (aY k) (aX k) (bF k) (bG k) (bH k) fq
end
def l9 (fq:ah):Option (ig ay av × ah):=aY BIG fq
def rM (fq:ah) (JQ:Int):Option (ig ay av × ah):=aX BIG fq JQ
def vX (fq:ah):Option (ig ay av × ah):=bF BIG fq
def vY (fq:ah):Option (ig ay av × ah):=bG BIG fq
def wT (fq:ah):Option (ig ay av × ah):=bH BIG fq
def uS (GU:List aR):Option (av × Int × Int):=
 kE (l9 (ah.mk GU 0)) (fun f1 _=>some ((av.mk 0 ([]:Str) (au.mk 0 false 0 ([]:Str) [] []) [] []),f1.at_,f1.code)) fun e1 r1=>
 some (e1,r1.at_,0)
def lG (dV:av→Option Int) (e1:av):Nat→Int→Int→Option Int
 | 0,_,_=>none
 | bJ + 1,n1,x1=>
  if decide (x1 < (e1.args.length:Int)) then
   aA (idx e1.args x1) fun e2=>
   aA (dV e2) fun x2=>
   lG dV e1 bJ (bE (n1 + x2)) (bE (x1 + 1))
  else
   some n1
def pJ (dV:av→Option Int) (e1:av):Option Int:=
 lG dV e1 BIG 1 0
def j_ :Nat→av→Option Int
 | 0,_=>none
 | k + 1,tQ=>pJ (j_ k) tQ
def xU (tQ:av):Option Int:=j_ BIG tQ
def uQ (v1:au):Option Bool:=
 some ((((((v1.kind == 0) && (!v1.kT)) && (v1.oo == 0)) && (v1.nG == ([]:Str))) && ((v1.eO.length:Int) == 0)) && ((v1.keys.length:Int) == 0))
def mH (s1:Str):Option Bool:=
 aA (qE s1) fun x1=>
 if x1 then
  aA (om s1) fun x2=>
  some (!x2)
 else
  some false
def sJ (e1:av):Option Bool:=
 if e1.kind == 2 then
  mH e1.name
 else
  if e1.kind == 3 then
   mH e1.name
  else
   if e1.kind == 5 then
    mH e1.name
   else
    if e1.kind == 6 then
     some ((e1.name == ([33]:Str)) || (e1.name == ([45]:Str)))
    else
     if e1.kind == 7 then
      aA (lF e1.name) fun x4=>
      some (decide (0 < x4))
     else
      some (e1.name == ([]:Str))
def sN (e1:av):Option Bool:=
 if e1.kind == 1 then
  some ((e1.args.length:Int) == 0)
 else
  if e1.kind == 2 then
   some ((e1.args.length:Int) == 0)
  else
   if e1.kind == 3 then
    some ((e1.args.length:Int) == 1)
   else
    if e1.kind == 6 then
     some ((e1.args.length:Int) == 1)
    else
     if e1.kind == 4 then
      some ((e1.args.length:Int) == 2)
     else
      if e1.kind == 7 then
       some ((e1.args.length:Int) == 2)
      else
       if e1.kind == 8 then
        some ((e1.args.length:Int) == 3)
       else
        some true
def dD (s1:List Str) (f1:Str→Option Bool):Nat→Int→Option Int
 | 0,_=>none
 | bJ + 1,i1=>
  if decide (i1 < (s1.length:Int)) then
   aA (idx s1 i1) fun e1=>
   aA (f1 e1) fun x1=>
   if x1 then
    some i1
   else
    dD s1 f1 bJ (bE (i1 + 1))
  else
   some (-1)
def fM (s1:List Str) (f1:Str→Option Bool):Option Int:=
 dD s1 f1 BIG 0
def eX (s1:List Str) (f1:Str→Option Bool):Option Bool:=
 aA (fM s1 f1) fun x1=>
 some (decide (0≤x1))
def mJ (uy:Str):Option Bool:=
 some ((decide ((uy.length:Int) < 1)) || (decide (64 < (uy.length:Int))))
def sK (e1:av):Option Bool:=
 if e1.kind != 10 then
  some ((e1.keys.length:Int) == 0)
 else
  if (e1.keys.length:Int) == (e1.args.length:Int) then
   aA (eX e1.keys mJ) fun x1=>
   some (!x1)
  else
   some false
def nT {β:Type} (go:β→au→Int→Option (Bool × β)) (v1:au) (bC:Int):Nat→β→Int→Option (Bool × β)
 | 0,_,_=>none
 | bJ + 1,s1,i1=>
  if decide (i1 < (v1.eO.length:Int)) then
   aA (idx v1.eO i1) fun x1=>
   fV (go s1 x1 (bE (bC + 1))) fun b1 s2=>
   if !b1 then
    some (false,s2)
   else
    nT go v1 bC bJ s2 (bE (i1 + 1))
  else
   some (true,s1)
def sw {β:Type} (go:β→au→Int→Option (Bool × β)) (y:β→Int→au→Option (Bool × β)) (s1:β) (v1:au) (bC:Int):Option (Bool × β):=
 fV (y s1 bC v1) fun b1 s2=>
 if !b1 then
  some (false,s2)
 else
  nT go v1 bC BIG s2 0
def oM {β:Type} (y:β→Int→au→Option (Bool × β)):Nat→β→au→Int→Option (Bool × β)
 | 0,_,_,_=>none
 | k + 1,s1,v1,bC=>sw (oM y k) y s1 v1 bC
def AJ {β:Type} (y:β→Int→au→Option (Bool × β)) (s1:β) (v1:au) (bC:Int):Option (Bool × β):=oM y BIG s1 v1 bC
def sD (v1:au):Option Bool:=
 some ((((((v1.kind == 1) || (!v1.kT)) && ((v1.kind == 2) || (v1.oo == 0))) && ((v1.kind == 3) || (v1.nG == ([]:Str)))) && (((v1.kind == 4) || (v1.kind == 5)) || ((v1.eO.length:Int) == 0))) && ((v1.kind == 5) || ((v1.keys.length:Int) == 0)))
def nM :Nat→Str→Str→Option Int
 | 0,_,_=>none
 | bJ + 1,a2,b2=>
  if (!(a2 == ([]:Str))) && (!(b2 == ([]:Str))) then
   none
  else
   none
def rz (a1:Str) (b1:Str):Option Int:=
 nM BIG a1 b1
def mq (v1:au):Nat→Int→Option Bool
 | 0,_=>none
 | bJ + 1,i1=>
  if decide (i1 < (v1.keys.length:Int)) then
   aA (idx v1.keys i1) fun uy=>
   aA (
     if (decide ((uy.length:Int) < 1)) || (decide (64 < (uy.length:Int))) then
      some true
     else
      if decide (0 < i1) then
       aA (idx v1.keys (bE (i1 - 1))) fun e1=>
       aA (rz e1 uy) fun x1=>
       some (decide (0≤x1))
      else
       some false) fun b1=>
   if b1 then
    some false
   else
    mq v1 bJ (bE (i1 + 1))
  else
   some true
def uG (v1:au):Option Bool:=
 if (v1.keys.length:Int) != (v1.eO.length:Int) then
  some false
 else
  mq v1 BIG 0
def wP (v1:au) (bC:Int):Option Int:=
 if decide (16 < bC) then
  some 13
 else
  aA (
    if (decide (v1.kind < 0)) || (decide (5 < v1.kind)) then
     some true
    else
     aA (sD v1) fun x1=>
     some (!x1)) fun b1=>
  if b1 then
   some 1
  else
   if (decide (v1.oo < (-9007199254740992))) || (decide (9007199254740992 < v1.oo)) then
    some 2
   else
    if ((decide (4096 < (v1.nG.length:Int))) || (decide (1024 < (v1.eO.length:Int)))) || (decide (1024 < (v1.keys.length:Int))) then
     some 3
    else
     aA (
       if v1.kind == 5 then
        aA (uG v1) fun x2=>
        some (!x2)
       else
        some false) fun b2=>
     if b2 then
      some 1
     else
      if (((v1.kind == 4) || (v1.kind == 5)) && ((v1.eO.length:Int) == 0)) && (bC == 16) then
       some 13
      else
       some 0
def nU (s1:Option Int) (bC:Int) (x1:au):Option (Bool × Option Int):=
 match s1 with
 | some _=>none
 | none=>
  aA (wP x1 bC) fun e1=>
  if !(e1 == 0) then
   some (false,some e1)
  else
   some (true,none)
def l6 (v1:au):Option Int:=
 fV (AJ nU none v1 1) fun _ s1=>
 some (s1.getD 0)
def jE (l1:List Str):Nat→Int→List (Str × Int)→Option Bool
 | 0,_,_=>none
 | bJ + 1,x1,y1=>
  if decide (x1 < (l1.length:Int)) then
   aA (idx l1 x1) fun s1=>
   if decide (1 < (vZ (qY y1 s1 (bE ((vZ y1 s1) + 1))) s1)) then
    some true
   else
    jE l1 bJ (bE (x1 + 1)) (qY y1 s1 (bE ((vZ y1 s1) + 1)))
  else
   some false
def oD (l1:List Str):Option Bool:=
 jE l1 BIG 0 []
def uT (e1:av) (bC:Int):Option Int:=
 if decide (16 < bC) then
  some 13
 else
  aA (
    if (decide (e1.kind < 1)) || (decide (10 < e1.kind)) then
     some true
    else
     if e1.kind != 1 then
      aA (uQ e1.value) fun x1=>
      some (!x1)
     else
      some false) fun b1=>
  aA (
    if b1 then
     some true
    else
     aA (sJ e1) fun x2=>
     some (!x2)) fun b3=>
  aA (
    if b3 then
     some true
    else
     aA (sN e1) fun x3=>
     some (!x3)) fun b4=>
  aA (
    if b4 then
     some true
    else
     aA (sK e1) fun x4=>
     some (!x4)) fun b5=>
  if b5 then
   some 1
  else
   aA (
     if e1.kind == 1 then
      aA (l6 e1.value) fun x5=>
      some (x5 != 0)
     else
      some false) fun b6=>
   if b6 then
    l6 e1.value
   else
    if decide (1024 < (e1.args.length:Int)) then
     some 3
    else
     aA (oD e1.keys) fun x7=>
     if x7 then
      some 7
     else
      some 0
def lD (dU:av→Int→Option Int) (e1:av) (bC:Int):Nat→Int→Option Int
 | 0,_=>none
 | bJ + 1,x1=>
  if decide (x1 < (e1.args.length:Int)) then
   aA (idx e1.args x1) fun e2=>
   aA (dU e2 (bE (bC + 1))) fun f2=>
   if f2 != 0 then
    some f2
   else
    lD dU e1 bC bJ (bE (x1 + 1))
  else
   some 0
def pI (dU:av→Int→Option Int) (e1:av) (bC:Int):Option Int:=
 aA (uT e1 bC) fun f1=>
 if f1 != 0 then
  some f1
 else
  lD dU e1 bC BIG 0
def j5 :Nat→av→Int→Option Int
 | 0,_,_=>none
 | k + 1,tQ,lu=>pI (j5 k) tQ lu
def xS (tQ:av) (lu:Int):Option Int:=j5 BIG tQ lu
def mK (e1:av):Option Int:=
 aA (xU e1) fun x1=>
 if decide (4096 < x1) then
  some 15
 else
  xS e1 1
def uU (GU:List aR):Option (av × Int × Int):=
 oK (uS GU) fun x1 n1 nu=>
 if nu != 0 then
  some ((av.mk 0 ([]:Str) (au.mk 0 false 0 ([]:Str) [] []) [] []),n1,nu)
 else
  aA (mK x1) fun wI=>
  if wI != 0 then
   some ((av.mk 0 ([]:Str) (au.mk 0 false 0 ([]:Str) [] []) [] []),0,wI)
  else
   some (x1,n1,0)
def sO (iq:Str):Option (av × Int × Int):=
 oK (sU iq) fun GU dB nu=>
 if nu != 0 then
  some ((av.mk 0 ([]:Str) (au.mk 0 false 0 ([]:Str) [] []) [] []),dB,nu)
 else
  oK (uU GU) fun x1 n1 wI=>
  if wI != 0 then
   none
  else
   if decide (n1 < (GU.length:Int)) then
    aA (idx GU n1) fun e1=>
    some ((av.mk 0 ([]:Str) (au.mk 0 false 0 ([]:Str) [] []) [] []),e1.at_,5)
   else
    some (x1,0,0)
def iO (eH:List aV) (text1:Str):Option (List aV):=
 if decide (0 < (text1.length:Int)) then app eH [(aV.mk text1 false (av.mk 0 ([]:Str) (au.mk 0 false 0 ([]:Str) [] []) [] []))] else some eH
def iM (s1:Str):Nat→Int→List aV→Str→Option (List aV × Int × Int)
 | 0,_,_,_=>none
 | bJ + 1,dB,eH,text1=>
  if decide (dB < (s1.length:Int)) then
   aA (sl s1 dB (s1.length:Int)) fun KC=>
   aA (strings_HasPrefix KC ([36,36]:Str)) fun b1=>
   if b1 then
    aA (app text1 [36]) fun Kr=>
    iM s1 bJ (bE (dB + 2)) eH Kr
   else
    aA (strings_HasPrefix KC ([36,123]:Str)) fun b2=>
    if b2 then
     aA (pQ s1 (bE (dB + 2))) fun yD=>
     if decide (yD < 0) then
      some ([],dB,4)
     else
      aA (sl s1 (bE (dB + 2)) yD) fun x1=>
      oK (sO x1) fun e1 n1 nu=>
      if nu != 0 then
       some ([],(bE ((bE (dB + 2)) + n1)),nu)
      else
       aA (iO eH text1) fun Et=>
       aA (app Et [(aV.mk ([]:Str) true e1)]) fun Es=>
       iM s1 bJ (bE (yD + 1)) Es []
    else
     aA (idx s1 dB) fun c1=>
     aA (app text1 [c1]) fun Kq=>
     iM s1 bJ (bE (dB + 1)) eH Kq
  else
   aA (iO eH text1) fun IK=>
   some (IK,0,0)
def oV (s1:Str):Option (List aV × Int × Int):=
 if decide (4096 < (s1.length:Int)) then
  some ([],0,3)
 else
  iM s1 BIG 0 [] []
def lI (s1:Str):Option Int:=
 if s1 == ([]:Str) then
  some 1
 else
  oK (oV s1) fun x1 x2 e1=>
  some e1
def nA (c1:aZ):Nat→Int→Option Int
 | 0,_=>none
 | uq + 1,x2=>
  if decide (x2 < (c1.files.length:Int)) then
   aA (idx c1.files x2) fun s2=>
   none
  else
   some 0
def jV (c1:aZ):Nat→Int→Option Int
 | 0,_=>none
 | bJ + 1,x1=>
  if decide (x1 < (c1.restore.length:Int)) then
   aA (idx c1.restore x1) fun s1=>
   aA (lI s1) fun e2=>
   if e2 != 0 then
    some e2
   else
    jV c1 bJ (bE (x1 + 1))
  else
   nA c1 BIG 0
def qc (c1:aZ):Option Int:=
 aA (lI c1.key) fun e1=>
 if e1 != 0 then
  some e1
 else
  if (decide (1024 < (c1.restore.length:Int))) || (decide (1024 < (c1.files.length:Int))) then
   some 3
  else
   jV c1 BIG 0
def dn (s1:List aJ) (f1:aJ→Option Bool):Nat→Int→Option Int
 | 0,_=>none
 | bJ + 1,i1=>
  if decide (i1 < (s1.length:Int)) then
   aA (idx s1 i1) fun e1=>
   aA (f1 e1) fun x1=>
   if x1 then
    some i1
   else
    dn s1 f1 bJ (bE (i1 + 1))
  else
   some (-1)
def fB (s1:List aJ) (f1:aJ→Option Bool):Option Int:=
 dn s1 f1 BIG 0
def dX (s1:List aJ) (f1:aJ→Option Bool):Option Bool:=
 aA (fB s1 f1) fun x1=>
 some (decide (0≤x1))
def gY (x1:aJ):Option Bool:=
 some (x1.name == ([102,105,108,101,115]:Str))
def nk (d1:BitVec 64):Nat→Int→List UInt8→Option Str
 | 0,_,_=>none
 | bJ + 1,i1,b1=>
  if decide (i1 < 16) then
   aA (MK (decide (0≤(bE (60 - (bE (4 * i1))))))) fun _=>
   aA (some ((d1 >>> (Int.toNat (bE (60 - (bE (4 * i1)))))) &&& (15:BitVec 64))) fun x1=>
   aA (idx ([48,49,50,51,52,53,54,55,56,57,97,98,99,100,101,102]:Str) (x1.toNat:Int)) fun x2=>
   aA (idx ([(b1.getD 0 0),(b1.getD 1 0),(b1.getD 2 0),(b1.getD 3 0),(b1.getD 4 0),(b1.getD 5 0),(b1.getD 6 0),(b1.getD 7 0),(b1.getD 8 0),(b1.getD 9 0),(b1.getD 10 0),(b1.getD 11 0),(b1.getD 12 0),(b1.getD 13 0),(b1.getD 14 0),(b1.getD 15 0)]:List UInt8) i1) fun e1=>
   aA (some (List.set ([(b1.getD 0 0),(b1.getD 1 0),(b1.getD 2 0),(b1.getD 3 0),(b1.getD 4 0),(b1.getD 5 0),(b1.getD 6 0),(b1.getD 7 0),(b1.getD 8 0),(b1.getD 9 0),(b1.getD 10 0),(b1.getD 11 0),(b1.getD 12 0),(b1.getD 13 0),(b1.getD 14 0),(b1.getD 15 0)]:List UInt8) (Int.toNat i1) x2)) fun b2=>
   nk d1 bJ (bE (i1 + 1)) ([(b2.getD 0 0),(b2.getD 1 0),(b2.getD 2 0),(b2.getD 3 0),(b2.getD 4 0),(b2.getD 5 0),(b2.getD 6 0),(b2.getD 7 0),(b2.getD 8 0),(b2.getD 9 0),(b2.getD 10 0),(b2.getD 11 0),(b2.getD 12 0),(b2.getD 13 0),(b2.getD 14 0),(b2.getD 15 0)]:List UInt8)
  else
   some ([(b1.getD 0 0),(b1.getD 1 0),(b1.getD 2 0),(b1.getD 3 0),(b1.getD 4 0),(b1.getD 5 0),(b1.getD 6 0),(b1.getD 7 0),(b1.getD 8 0),(b1.getD 9 0),(b1.getD 10 0),(b1.getD 11 0),(b1.getD 12 0),(b1.getD 13 0),(b1.getD 14 0),(b1.getD 15 0)]:List UInt8)
def qK (d1:BitVec 64):Option Str:=
 nk d1 BIG 0 ([0,0,0,0,0,0,0,0,0,0,0,0,0,0,0,0]:List UInt8)
def bP (s1:List aJ):Option (List aJ):=
 app [] s1
def kC (c1:aZ) (uF:List aJ) (dx:List aB):Option (List aJ × Int):=
 aA (qc c1) fun e1=>
 if e1 != 0 then
  some ([],e1)
 else
  aA (dX uF gY) fun x1=>
  if x1 then
   some ([],7)
  else
   aA (jg dx c1.files) fun x2=>
   aA (qK x2) fun x3=>
   aA (bP uF) fun x4=>
   aA (app x4 [(aJ.mk ([102,105,108,101,115]:Str) (au.mk 3 false 0 x3 [] []))]) fun x5=>
   some (x5,0)
def qJ (gX:List aJ):Nat→Int→List (Str × Int)→Option Int
 | 0,_,_=>none
 | bJ + 1,x1,y1=>
  if decide (x1 < (gX.length:Int)) then
   aA (idx gX x1) fun e1=>
   aA (mK (av.mk 2 e1.name (au.mk 0 false 0 ([]:Str) [] []) [] [])) fun x2=>
   if x2 != 0 then
    some 1
   else
    aA (l6 e1.value) fun e2=>
    if e2 != 0 then
     some e2
    else
     if decide (1 < (vZ (qY y1 e1.name (bE ((vZ y1 e1.name) + 1))) e1.name)) then
      some 7
     else
      qJ gX bJ (bE (x1 + 1)) (qY y1 e1.name (bE ((vZ y1 e1.name) + 1)))
  else
   some 0
def yA (gX:List aJ):Option Int:=
 if decide (1024 < (gX.length:Int)) then
  some 3
 else
  qJ gX BIG 0 []
def u7 (e1:av) (gX:List aJ):Option (List aJ × Int):=
 aA (yA gX) fun f1=>
 if f1 != 0 then
  some ([],f1)
 else
  aA (mK e1) fun f2=>
  if f2 != 0 then
   some ([],f2)
  else
   some (gX,0)
def zm (e1:Int):Option (ig bg Unit):=
 some (.bad (bg.mk e1))
def jJ (s1:List aJ) (name1:Str):Nat→Int→Option (ig bg au)
 | 0,_=>none
 | bJ + 1,x1=>
  if decide (x1 < (s1.length:Int)) then
   aA (idx s1 x1) fun e1=>
   if e1.name == name1 then
    some (.ok e1.value)
   else
    jJ s1 name1 bJ (bE (x1 + 1))
  else
   CK (zm 10) (fun e2=>some (.bad e2)) fun _=>
   some (.ok (au.mk 0 false 0 ([]:Str) [] []))
def oG (s1:List aJ) (name1:Str):Option (ig bg au):=
 jJ s1 name1 BIG 0
def mZ (gF:List aJ→av→Option (ig bg au)) (s1:List aJ) (e1:av):Option (ig bg au):=
 if e1.kind == 1 then
  some (.ok e1.value)
 else
  if e1.kind == 2 then
   CK (oG s1 e1.name) (fun e2=>some (.bad e2)) fun x1=>
   some (.ok x1)
  else
   if e1.kind == 3 then
    none
   else
    if e1.kind == 4 then
     aA (idx e1.args 0) fun e3=>
     CK (gF s1 e3) (fun e4=>some (.bad e4)) fun x2=>
     none
    else
     if e1.kind == 5 then
      none
     else
      if e1.kind == 6 then
       none
      else
       if e1.kind == 7 then
        none
       else
        if e1.kind == 8 then
         none
        else
         if e1.kind == 9 then
          none
         else
          none
def iU :Nat→List aJ→av→Option (ig bg au)
 | 0,_,_=>none
 | k + 1,JO,tQ=>mZ (iU k) JO tQ
def tZ (JO:List aJ) (tQ:av):Option (ig bg au):=iU BIG JO tQ
def pW (s1:List aJ) (e1:av):Option (au × Int):=
 CK (tZ s1 e1) (fun f1=>some ((au.mk 0 false 0 ([]:Str) [] []),f1.code)) fun v1=>
 some (v1,0)
def nZ (fI:au→Option au) (v1:au):Nat→Int→au→Option au
 | 0,_,_=>none
 | bJ + 1,x1,bI=>
  if decide (x1 < (v1.eO.length:Int)) then
   aA (idx v1.eO x1) fun e1=>
   aA (fI e1) fun x2=>
   aA (app bI.eO [x2]) fun x3=>
   nZ fI v1 bJ (bE (x1 + 1)) (au.mk bI.kind bI.kT bI.oo bI.nG x3 bI.keys)
  else
   aA (app bI.keys v1.keys) fun x4=>
   some (au.mk bI.kind bI.kT bI.oo bI.nG bI.eO x4)
def tu (fI:au→Option au) (v1:au):Option au:=
 nZ fI v1 BIG 0 (au.mk v1.kind v1.kT v1.oo v1.nG [] [])
def m_ :Nat→au→Option au
 | 0,_=>none
 | k + 1,JN=>tu (m_ k) JN
def BZ (JN:au):Option au:=m_ BIG JN
def zn (e1:av) (gX:List aJ):Option (au × Int):=
 fV (u7 e1 gX) fun s1 f1=>
 if f1 != 0 then
  some ((au.mk 0 false 0 ([]:Str) [] []),f1)
 else
  fV (pW s1 e1) fun x1 f2=>
  aA (BZ x1) fun x2=>
  some (x2,f2)
def wQ (v1:au):Option (Str × Int):=
 if (v1.kind == 4) || (v1.kind == 5) then
  some (([]:Str),9)
 else
  aA (l6 v1) fun e1=>
  if e1 != 0 then
   some (([]:Str),e1)
  else
   if v1.kind == 0 then
    some (([]:Str),0)
   else
    if v1.kind == 3 then
     some (v1.nG,0)
    else
     none
def oF (p1:aV) (gX:List aJ):Option (Str × Int):=
 if !p1.Qa then
  some (p1.text,0)
 else
  fV (zn p1.expr gX) fun x1 nu=>
  if nu != 0 then
   some (([]:Str),nu)
  else
   wQ x1
def kK (gX:List aJ) (ps1:List aV):Nat→Int→Str→Option (Str × Int)
 | 0,_,_=>none
 | bJ + 1,x2,b1=>
  if decide (x2 < (ps1.length:Int)) then
   aA (idx ps1 x2) fun e1=>
   fV (oF e1 gX) fun t1 Lb=>
   if Lb != 0 then
    some (([]:Str),Lb)
   else
    aA (app b1 t1) fun b2=>
    kK gX ps1 bJ (bE (x2 + 1)) b2
  else
   if decide (4096 < (b1.length:Int)) then
    some (([]:Str),3)
   else
    some (b1,0)
def ru (s1:Str) (gX:List aJ):Option (Str × Int):=
 oK (oV s1) fun ps1 x1 nu=>
 if nu != 0 then
  some (([]:Str),nu)
 else
  aA (yA gX) fun wI=>
  if wI != 0 then
   some (([]:Str),wI)
  else
   kK gX ps1 BIG 0 []
def ny (s1:Str) (gX:List aJ):Option (Str × Int):=
 fV (ru s1 gX) fun bI e1=>
 if e1 != 0 then
  some (([]:Str),e1)
 else
  if bI == ([]:Str) then
   some (([]:Str),1)
  else
   if decide (512 < (bI.length:Int)) then
    some (([]:Str),3)
   else
    some (bI,0)
def nC (c1:aZ) (uF:List aJ) (dx:List aB):Option (Str × Int):=
 fV (kC c1 uF dx) fun gX e1=>
 if e1 != 0 then
  some (([]:Str),e1)
 else
  ny c1.key gX
def vP :Option Bool:=
 fV (nC (aZ.mk ([103,111,45,36,123,102,105,108,101,115,125]:Str) [] []) [] []) fun a1 e1=>
 fV (nC (aZ.mk ([36,123,111,115,125,47,49]:Str) [] []) [(aJ.mk ([111,115]:Str) (au.mk 3 false 0 ([108,105,110,117,120]:Str) [] []))] []) fun b1 f1=>
 fV (nC (aZ.mk ([36,123,97,114,99,104,125]:Str) [] []) [] []) fun x1 g1=>
 aA (kN ([102,105,108,101,115]:Str) []) fun x2=>
 aA (qK x2) fun x3=>
 aA (app ([103,111,45]:Str) x3) fun x4=>
 some (((((a1 == x4) && (e1 == 0)) && (b1 == ([108,105,110,117,120,47,49]:Str))) && (f1 == 0)) && (g1 != 0))
def kJ (dx:List aB) (l1:List Str):Option Bool:=
 aA (vO dx) fun x1=>
 aA (
   if !x1 then
    some true
   else
    aA (oU l1) fun x2=>
    some (!x2)) fun b1=>
 aA (
   if b1 then
    some true
   else
    aA (jg dx l1) fun x3=>
    aA (uO dx l1) fun x4=>
    some ((x3.toNat:Int) == (x4.toNat:Int))) fun b2=>
 if b2 then
  vP
 else
  some false
end Go.Ft
