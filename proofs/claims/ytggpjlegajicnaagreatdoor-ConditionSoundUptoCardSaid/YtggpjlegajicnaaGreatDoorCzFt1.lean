/- Proved here: nothing: the functional texts of the functions that the statements reach, as our program wrote them. -/
import Derived.Test.YtggpjlegajicnaaGreatDoorCzWords
set_option linter.unusedVariables false
set_option linter.unusedSimpArgs false
set_option linter.unusedSectionVars false
namespace Go.Ft
open Go
structure ah where
 kind:Int
 dM:Bool
 dO:Int
 bO:Str
 aI:List ah
 keys:List Str
structure ak where
 kind:Int
 name:Str
 value:ah
 args:List ak
 keys:List Str
structure aB where
 name:Str
 value:ah
structure aS where
 kind:Int
 text:Str
 at_:Int
 deriving DecidableEq
structure ay where
 ts:List aS
 at_:Int
 deriving DecidableEq
structure aK where
 at_:Int
 code:Int
 deriving DecidableEq
structure aW where
 cancelled:Bool
 failure:Bool
 skipped:Bool
 success:Bool
 deriving DecidableEq
structure aD where
 code:Int
 deriving DecidableEq
structure iI where
 half:List (BitVec 64)
 neg:Bool
 deriving DecidableEq
structure aj where
 kind:Int
 elem:List aj
structure aG where
 name:Str
 o7:aj
structure agu where
 x:Int
 y:Int
 signed:Bool
 code:UInt8
 deriving DecidableEq
structure DT where
 x:Int
 y:Int
 signed:Bool
 code:UInt8
 deriving DecidableEq
structure agt where
 msg:Str
 addr:BitVec 64
 deriving DecidableEq
structure vR where
 msg:Str
 addr:BitVec 64
 deriving DecidableEq
structure ags where
 kind:Int
 dM:Bool
 dO:Int
 bO:Str
 aI:List ah
 keys:List Str
structure agr where
 kind:Int
 name:Str
 value:ah
 args:List ak
 keys:List Str
structure agq where
 name:Str
 value:ah
structure agp where
 kind:Int
 elem:List aj
structure agn where
 name:Str
 o7:aj
structure agm where
 cancelled:Bool
 failure:Bool
 skipped:Bool
 success:Bool
 deriving DecidableEq
structure agl where
 kind:Int
 text:Str
 at_:Int
 deriving DecidableEq
structure agk where
 code:Int
 deriving DecidableEq
structure agj where
 ts:List aS
 at_:Int
 deriving DecidableEq
structure agi where
 at_:Int
 code:Int
 deriving DecidableEq
structure anH where
 half:List (BitVec 64)
 neg:Bool
 deriving DecidableEq
structure agh where
 neg:Bool
 hi:BitVec 64
 lo:BitVec 64
 deriving DecidableEq
structure EN where
 neg:Bool
 hi:BitVec 64
 lo:BitVec 64
 deriving DecidableEq
structure anG where
 func:Str
 num:Str
 err:Option Nat
structure adN where
 func:Str
 num:Str
 err:Option Nat
structure agf where
 s:Str
 deriving DecidableEq
structure EP where
 s:Str
 deriving DecidableEq
structure agd where
 lo:UInt8
 hi:UInt8
 deriving DecidableEq
structure Ia where
 lo:UInt8
 hi:UInt8
 deriving DecidableEq
mutual
def ah.bulk :ah→Nat
 | ⟨a0,a1,a2,a3,a4,a5⟩=>1 + 1 + 1 + (a3.length + 1) + (ah.o9 a4 + 1) + ((List.map (fun z:Str=>(z.length + 1)) a5).sum + 1) + 1
def ah.o9 :List ah→Nat
 | []=>0
 | x :: xs=>ah.bulk x + ah.o9 xs
end
theorem ah.nT :∀ l:List ah,ah.o9 l=(l.map ah.bulk).sum
 | []=>rfl
 | x :: l=>by simp only [ah.o9,List.map_cons,List.sum_cons,ah.nT l]
theorem ah.lu (x:ah):ah.bulk x=1 + 1 + 1 + (x.bO.length + 1) + (ah.o9 x.aI + 1) + ((List.map (fun z:Str=>(z.length + 1)) x.keys).sum + 1) + 1:=by cases x; rfl
mutual
def ak.bulk :ak→Nat
 | ⟨a0,a1,a2,a3,a4⟩=>1 + (a1.length + 1) + (ah.bulk a2) + (ak.o9 a3 + 1) + ((List.map (fun z:Str=>(z.length + 1)) a4).sum + 1) + 1
def ak.o9 :List ak→Nat
 | []=>0
 | x :: xs=>ak.bulk x + ak.o9 xs
end
theorem ak.nT :∀ l:List ak,ak.o9 l=(l.map ak.bulk).sum
 | []=>rfl
 | x :: l=>by simp only [ak.o9,List.map_cons,List.sum_cons,ak.nT l]
theorem ak.lu (x:ak):ak.bulk x=1 + (x.name.length + 1) + (ah.bulk x.value) + (ak.o9 x.args + 1) + ((List.map (fun z:Str=>(z.length + 1)) x.keys).sum + 1) + 1:=by cases x; rfl
def aB.bulk (x:aB):Nat:=(x.name.length + 1) + (ah.bulk x.value) + 1
def aS.bulk (x:aS):Nat:=1 + (x.text.length + 1) + 1 + 1
def ay.bulk (x:ay):Nat:=((List.map (fun z:aS=>(aS.bulk z)) x.ts).sum + 1) + 1 + 1
def aK.bulk (x:aK):Nat:=1 + 1 + 1
def aW.bulk (x:aW):Nat:=1 + 1 + 1 + 1 + 1
def aD.bulk (x:aD):Nat:=1 + 1
mutual
def aj.bulk :aj→Nat
 | ⟨a0,a1⟩=>1 + (aj.o9 a1 + 1) + 1
def aj.o9 :List aj→Nat
 | []=>0
 | x :: xs=>aj.bulk x + aj.o9 xs
end
theorem aj.nT :∀ l:List aj,aj.o9 l=(l.map aj.bulk).sum
 | []=>rfl
 | x :: l=>by simp only [aj.o9,List.map_cons,List.sum_cons,aj.nT l]
theorem aj.lu (x:aj):aj.bulk x=1 + (aj.o9 x.elem + 1) + 1:=by cases x; rfl
def aG.bulk (x:aG):Nat:=(x.name.length + 1) + (aj.bulk x.o7) + 1
def agu.bulk (x:agu):Nat:=1 + 1 + 1 + 1 + 1
def DT.bulk (x:DT):Nat:=1 + 1 + 1 + 1 + 1
def agt.bulk (x:agt):Nat:=(x.msg.length + 1) + 1 + 1
def vR.bulk (x:vR):Nat:=(x.msg.length + 1) + 1 + 1
def ags.bulk (x:ags):Nat:=1 + 1 + 1 + (x.bO.length + 1) + (ah.o9 x.aI + 1) + ((List.map (fun z:Str=>(z.length + 1)) x.keys).sum + 1) + 1
def agr.bulk (x:agr):Nat:=1 + (x.name.length + 1) + (ah.bulk x.value) + (ak.o9 x.args + 1) + ((List.map (fun z:Str=>(z.length + 1)) x.keys).sum + 1) + 1
def agq.bulk (x:agq):Nat:=(x.name.length + 1) + (ah.bulk x.value) + 1
def agp.bulk (x:agp):Nat:=1 + (aj.o9 x.elem + 1) + 1
def agn.bulk (x:agn):Nat:=(x.name.length + 1) + (aj.bulk x.o7) + 1
def agm.bulk (x:agm):Nat:=1 + 1 + 1 + 1 + 1
def agl.bulk (x:agl):Nat:=1 + (x.text.length + 1) + 1 + 1
def agk.bulk (x:agk):Nat:=1 + 1
def agj.bulk (x:agj):Nat:=((List.map (fun z:aS=>(aS.bulk z)) x.ts).sum + 1) + 1 + 1
def agi.bulk (x:agi):Nat:=1 + 1 + 1
def agh.bulk (x:agh):Nat:=1 + 1 + 1 + 1
def EN.bulk (x:EN):Nat:=1 + 1 + 1 + 1
def agf.bulk (x:agf):Nat:=(x.s.length + 1) + 1
def EP.bulk (x:EP):Nat:=(x.s.length + 1) + 1
def agd.bulk (x:agd):Nat:=1 + 1 + 1
def Ia.bulk (x:Ia):Nat:=1 + 1 + 1
def yF (mK:ak→Option Int) (e1:ak):Nat→Int→Int→Option Int
 | 0,_,_=>none
 | bP + 1,n1,i1=>
  if decide (i1 < (e1.args.length:Int)) then
   au (idx e1.args i1) fun e2=>
   au (mK e2) fun x1=>
   yF mK e1 bP (bW (n1 + x1)) (bW (i1 + 1))
  else
   some n1
def Ei (mK:ak→Option Int) (e1:ak):Option Int:=
 yF mK e1 BIG 1 0
def pV :Nat→ak→Option Int
 | 0,_=>none
 | k + 1,iO=>Ei (pV k) iO
def FC (iO:ak):Option Int:=pV BIG iO
def FN (e1:ak) (n1:Int):Option Bool:=
 au (FC e1) fun x1=>
 some ((decide (x1≤5000)) && (decide (n1≤300)))
def nM (b1:Bool):Option ah:=
 some (ah.mk 1 b1 0 ([]:Str) [] [])
def xD (bR:List Int) (kC:Int):Nat→Int→Option Bool
 | 0,_=>none
 | bP + 1,i1=>
  if decide (i1 < (bR.length:Int)) then
   au (idx bR i1) fun e1=>
   if e1 == kC then
    some true
   else
    xD bR kC bP (bW (i1 + 1))
  else
   some false
def Fq (bR:List Int) (kC:Int):Option Bool:=
 xD bR kC BIG 0
def zM (bR:List Int) (kC:Int):Nat→Int→Option Bool
 | 0,_=>none
 | bP + 1,i1=>
  if decide (i1 < (bR.length:Int)) then
   au (idx bR i1) fun e1=>
   if e1 != kC then
    some false
   else
    zM bR kC bP (bW (i1 + 1))
  else
   some true
def P7 (bR:List Int) (kC:Int):Option Bool:=
 zM bR kC BIG 0
def Mw (bR:List Int) (bU:List aB):Option (List aB):=
 au (nM true) fun x1=>
 au (Fq bR 4) fun x2=>
 au (nM x2) fun x3=>
 au (app [(aB.mk ([97,108,119,97,121,115]:Str) x1)] [(aB.mk ([99,97,110,99,101,108,108,101,100]:Str) x3)]) fun l1=>
 au (Fq bR 2) fun x4=>
 au (nM x4) fun x5=>
 au (app l1 [(aB.mk ([102,97,105,108,117,114,101]:Str) x5)]) fun l2=>
 au (Fq bR 3) fun x6=>
 au (nM x6) fun x7=>
 au (app l2 [(aB.mk ([115,107,105,112,112,101,100]:Str) x7)]) fun l3=>
 au (P7 bR 1) fun x8=>
 au (nM x8) fun x9=>
 au (app l3 [(aB.mk ([115,117,99,99,101,115,115]:Str) x9)]) fun l4=>
 app l4 bU
def Gw (c1:UInt8):Option Bool:=
 some ((((decide (97≤(c1.toNat:Int))) && (decide ((c1.toNat:Int)≤122))) || ((decide (65≤(c1.toNat:Int))) && (decide ((c1.toNat:Int)≤90)))) || ((c1.toNat:Int) == 95))
def zS (c1:UInt8):Option Bool:=
 some ((decide (48≤(c1.toNat:Int))) && (decide ((c1.toNat:Int)≤57)))
def A8 (s1:Str):Nat→Int→Option Bool
 | 0,_=>none
 | bP + 1,i1=>
  if decide (i1 < (s1.length:Int)) then
   au (idx s1 i1) fun x1=>
   au (Gw x1) fun x2=>
   au (
     if !x2 then
      if i1 == 0 then
       some true
      else
       au (idx s1 i1) fun x3=>
       au (zS x3) fun x4=>
       some (!x4)
     else
      some false) fun b1=>
   if b1 then
    some false
   else
    A8 s1 bP (bW (i1 + 1))
  else
   some ((decide (1≤(s1.length:Int))) && (decide ((s1.length:Int)≤64)))
def IX (s1:Str):Option Bool:=
 A8 s1 BIG 0
def u6 (s1:Str):Option Bool:=
 au (IX s1) fun x1=>
 some (((x1 && (!(s1 == ([116,114,117,101]:Str)))) && (!(s1 == ([102,97,108,115,101]:Str)))) && (!(s1 == ([110,117,108,108]:Str))))
def FE (v1:ah):Option Bool:=
 if ((v1.dM && (v1.kind != 1)) || ((v1.dO != 0) && (v1.kind != 2))) || ((!(v1.bO == ([]:Str))) && (v1.kind != 3)) then
  some false
 else
  if ((decide (0 < (v1.aI.length:Int))) && (v1.kind != 4)) && (v1.kind != 5) then
   some false
  else
   some (((v1.keys.length:Int) == 0) || (v1.kind == 5))
def MH (s1:Str):Option Bool:=
 some ((decide (1≤(s1.length:Int))) && (decide ((s1.length:Int)≤64)))
def vv (abH:Bool) (M4:Bool):Option Int:=
 if abH then
  some (-1)
 else
  if M4 then
   some 1
  else
   some 0
def CP (c1:UInt8):Option Bool:=
 some ((decide (48≤(c1.toNat:Int))) && (decide ((c1.toNat:Int)≤57)))
def Db (s1:Str):Nat→Int→Option Int
 | 0,_=>none
 | bP + 1,at2=>
  au (
    if decide (at2 < (s1.length:Int)) then
     au (idx s1 at2) fun x1=>
     CP x1
    else
     some false) fun b1=>
  if b1 then
   Db s1 bP (bW (at2 + 1))
  else
   some at2
def ML (s1:Str) (nL:Int):Option Int:=
 Db s1 BIG nL
def vo (s1:Str):Nat→Int→Option Str
 | 0,_=>none
 | bP + 1,i1=>
  au (
    if decide (i1 < (s1.length:Int)) then
     au (idx s1 i1) fun x1=>
     some ((x1.toNat:Int) == 48)
    else
     some false) fun b1=>
  if b1 then
   vo s1 bP (bW (i1 + 1))
  else
   sl s1 i1 (s1.length:Int)
def CO (s1:Str):Option Str:=
 vo s1 BIG 0
def I5 (a1:Str) (b1:Str):Option Int:=
 au (CO a1) fun x1=>
 au (CO b1) fun y1=>
 if (x1.length:Int) != (y1.length:Int) then
  vv (decide ((x1.length:Int) < (y1.length:Int))) (decide ((y1.length:Int) < (x1.length:Int)))
 else
  if !(x1 == y1) then
   vv (Go.Op.bytesLess x1 y1) (!(Go.Op.bytesLess x1 y1 || x1 == y1))
  else
   vv (decide ((a1.length:Int) < (b1.length:Int))) (decide ((b1.length:Int) < (a1.length:Int)))
def mY (a1:Str) (b1:Str):Nat→Int→Int→Option Int
 | 0,_,_=>none
 | bP + 1,i1,oZ=>
  if (decide (i1 < (a1.length:Int))) && (decide (oZ < (b1.length:Int))) then
   au (idx a1 i1) fun x1=>
   au (idx b1 oZ) fun x2=>
   au (idx a1 i1) fun x3=>
   au (idx b1 oZ) fun x4=>
   au (vv (decide ((x1.toNat:Int) < (x2.toNat:Int))) (decide ((x4.toNat:Int) < (x3.toNat:Int)))) fun c1=>
   au (idx a1 i1) fun x5=>
   au (CP x5) fun x6=>
   au (
     if x6 then
      au (idx b1 oZ) fun x7=>
      CP x7
     else
      some false) fun b2=>
   if b2 then
    au (ML a1 i1) fun m1=>
    au (ML b1 oZ) fun n1=>
    au (sl a1 i1 m1) fun x9=>
    au (sl b1 oZ n1) fun BH=>
    au (I5 x9 BH) fun c2=>
    if c2 != 0 then
     some c2
    else
     mY a1 b1 bP m1 n1
   else
    if c1 != 0 then
     some c1
    else
     mY a1 b1 bP (bW (i1 + 1)) (bW (oZ + 1))
  else
   vv (decide (oZ < (b1.length:Int))) (decide (i1 < (a1.length:Int)))
def pX (a1:Str) (b1:Str):Option Int:=
 mY a1 b1 BIG 0 0
def oD (v1:ah):Nat→Int→Option Bool
 | 0,_=>none
 | bP + 1,i1=>
  if decide (i1 < (v1.keys.length:Int)) then
   au (idx v1.keys i1) fun e1=>
   au (MH e1) fun x1=>
   au (
     if !x1 then
      some true
     else
      if decide (0 < i1) then
       au (idx v1.keys (bW (i1 - 1))) fun e2=>
       au (idx v1.keys i1) fun e3=>
       au (pX e2 e3) fun x2=>
       some (decide (0≤x2))
      else
       some false) fun b1=>
   if b1 then
    some false
   else
    oD v1 bP (bW (i1 + 1))
  else
   some ((v1.keys.length:Int) == (v1.aI.length:Int))
def wu (v1:ah):Option Bool:=
 oD v1 BIG 0
def yI (mM:ah→Int→Option Int) (v1:ah) (bE:Int):Nat→Int→Option Int
 | 0,_=>none
 | bP + 1,i1=>
  if decide (i1 < (v1.aI.length:Int)) then
   au (idx v1.aI i1) fun e1=>
   au (mM e1 (bW (bE + 1))) fun e2=>
   if e2 != 0 then
    some e2
   else
    yI mM v1 bE bP (bW (i1 + 1))
  else
   some 0
def Em (mM:ah→Int→Option Int) (v1:ah) (bE:Int):Option Int:=
 if decide (16 < bE) then
  some 13
 else
  au (
    if (decide (v1.kind < 0)) || (decide (5 < v1.kind)) then
     some true
    else
     au (FE v1) fun x1=>
     some (!x1)) fun b1=>
  if b1 then
   some 1
  else
   if (decide (v1.dO < (-9007199254740992))) || (decide (9007199254740992 < v1.dO)) then
    some 2
   else
    if ((decide (4096 < (v1.bO.length:Int))) || (decide (1024 < (v1.aI.length:Int)))) || (decide (1024 < (v1.keys.length:Int))) then
     some 3
    else
     au (
       if v1.kind == 5 then
        au (wu v1) fun x2=>
        some (!x2)
       else
        some false) fun b2=>
     if b2 then
      some 1
     else
      if ((decide (4≤v1.kind)) && ((v1.aI.length:Int) == 0)) && (bE == 16) then
       some 13
      else
       yI mM v1 bE BIG 0
def pW :Nat→ah→Int→Option Int
 | 0,_,_=>none
 | k + 1,qH,dZ=>Em (pW k) qH dZ
def NR (qH:ah) (dZ:Int):Option Int:=pW BIG qH dZ
def xH (v1:ah):Option Int:=
 NR v1 1
def zO (b_:List aB) (i1:Int) (KI:Int→Option Int):Nat→Int→Option Int
 | 0,_=>none
 | Ke + 1,oZ=>
  if decide (oZ < i1) then
   au (idx b_ oZ) fun e4=>
   au (idx b_ i1) fun e5=>
   if e4.name == e5.name then
    some 7
   else
    zO b_ i1 KI Ke (bW (oZ + 1))
  else
   KI (bW (i1 + 1))
def tY (b_:List aB):Nat→Int→Option Int
 | 0,_=>none
 | bP + 1,i1=>
  if decide (i1 < (b_.length:Int)) then
   au (idx b_ i1) fun e1=>
   au (u6 e1.name) fun x1=>
   if !x1 then
    some 1
   else
    au (idx b_ i1) fun e2=>
    au (xH e2.value) fun e3=>
    if e3 != 0 then
     some e3
    else
     zO b_ i1 (tY b_ bP) BIG 0
  else
   some 0
def MB (b_:List aB):Option Int:=
 if decide (1024 < (b_.length:Int)) then
  some 3
 else
  tY b_ BIG 0
def Dl (tX:Int):Option Bool:=
 some ((tX == 32) || (tX == 9))
def yT (s1:Str) (JD:UInt8→Option Bool):Nat→Int→Option Int
 | 0,_=>none
 | bP + 1,at2=>
  au (
    if decide (at2 < (s1.length:Int)) then
     au (idx s1 at2) fun x1=>
     JD x1
    else
     some false) fun b1=>
  if b1 then
   yT s1 JD bP (bW (at2 + 1))
  else
   some at2
def Bd (s1:Str) (nL:Int) (JD:UInt8→Option Bool):Option Int:=
 yT s1 JD BIG nL
def yX (c1:UInt8):Option Bool:=
 some ((c1.toNat:Int) != 10)
def yU (c1:UInt8):Option Bool:=
 some ((((decide (97≤(c1.toNat:Int))) && (decide ((c1.toNat:Int)≤122))) || ((decide (65≤(c1.toNat:Int))) && (decide ((c1.toNat:Int)≤90)))) || ((c1.toNat:Int) == 95))
def xO (c1:UInt8):Option Bool:=
 some ((decide (48≤(c1.toNat:Int))) && (decide ((c1.toNat:Int)≤57)))
def Cj (c1:UInt8):Option Bool:=
 au (yU c1) fun x1=>
 if x1 then
  some true
 else
  xO c1
def Lf (iM:Str) (nL:Int):Option (aS × Int × Int):=
 au (Bd iM nL Cj) fun Ku=>
 if decide (64 < (bW (Ku - nL))) then
  some ((aS.mk 0 ([]:Str) 0),0,3)
 else
  au (sl iM nL Ku) fun x1=>
  some ((aS.mk 1 x1 nL),Ku,0)
def yV (Au:Str):Nat→Int→Int→Option Bool
 | 0,_,_=>none
 | bP + 1,n1,i1=>
  if (decide (i1 < (Au.length:Int))) && (decide (n1≤9007199254740992)) then
   au (idx Au i1) fun x1=>
   yV Au bP (bW ((bW (10 * n1)) + ((x1 - 48).toNat:Int))) (bW (i1 + 1))
  else
   some (decide (9007199254740992 < n1))
def Ji (Au:Str):Option Bool:=
 yV Au BIG 0 0
def GL (iM:Str) (nL:Int):Option (aS × Int × Int):=
 au (Bd iM nL xO) fun Ku=>
 au (sl iM nL Ku) fun text1=>
 au (
   if decide (1 < (text1.length:Int)) then
    au (idx text1 0) fun x1=>
    some ((x1.toNat:Int) == 48)
   else
    some false) fun b1=>
 au (
   if b1 then
    some true
   else
    if decide (Ku < (iM.length:Int)) then
     au (idx iM Ku) fun x2=>
     yU x2
    else
     some false) fun b2=>
 if b2 then
  some ((aS.mk 0 ([]:Str) 0),0,5)
 else
  au (Ji text1) fun x4=>
  if x4 then
   some ((aS.mk 0 ([]:Str) 0),0,2)
  else
   some ((aS.mk 2 text1 nL),Ku,0)
def p9 (iM:Str) (nL:Int):Nat→Int→Option (aS × Int × Int)
 | 0,_=>none
 | bP + 1,x1=>
  if decide (x1 < (([2,1]:List Int).length:Int)) then
   au (idx ([2,1]:List Int) x1) fun n1=>
   if decide ((iM.length:Int) < (bW (nL + n1))) then
    p9 iM nL bP (bW (x1 + 1))
   else
    au (sl iM nL (bW (nL + n1))) fun s1=>
    if s1 == ([124,124]:Str) then
     some ((aS.mk 4 s1 nL),(bW (nL + n1)),0)
    else
     if s1 == ([38,38]:Str) then
      some ((aS.mk 4 s1 nL),(bW (nL + n1)),0)
     else
      if s1 == ([61,61]:Str) then
       some ((aS.mk 4 s1 nL),(bW (nL + n1)),0)
      else
       if s1 == ([33,61]:Str) then
        some ((aS.mk 4 s1 nL),(bW (nL + n1)),0)
       else
        if s1 == ([60,61]:Str) then
         some ((aS.mk 4 s1 nL),(bW (nL + n1)),0)
        else
         if s1 == ([62,61]:Str) then
          some ((aS.mk 4 s1 nL),(bW (nL + n1)),0)
         else
          if s1 == ([60]:Str) then
           some ((aS.mk 4 s1 nL),(bW (nL + n1)),0)
          else
           if s1 == ([62]:Str) then
            some ((aS.mk 4 s1 nL),(bW (nL + n1)),0)
           else
            if s1 == ([43]:Str) then
             some ((aS.mk 4 s1 nL),(bW (nL + n1)),0)
            else
             if s1 == ([45]:Str) then
              some ((aS.mk 4 s1 nL),(bW (nL + n1)),0)
             else
              if s1 == ([42]:Str) then
               some ((aS.mk 4 s1 nL),(bW (nL + n1)),0)
              else
               if s1 == ([47]:Str) then
                some ((aS.mk 4 s1 nL),(bW (nL + n1)),0)
               else
                if s1 == ([37]:Str) then
                 some ((aS.mk 4 s1 nL),(bW (nL + n1)),0)
                else
                 if s1 == ([33]:Str) then
                  some ((aS.mk 4 s1 nL),(bW (nL + n1)),0)
                 else
                  if s1 == ([63]:Str) then
                   some ((aS.mk 4 s1 nL),(bW (nL + n1)),0)
                  else
                   if s1 == ([58]:Str) then
                    some ((aS.mk 4 s1 nL),(bW (nL + n1)),0)
                   else
                    if s1 == ([46]:Str) then
                     some ((aS.mk 4 s1 nL),(bW (nL + n1)),0)
                    else
                     if s1 == ([44]:Str) then
                      some ((aS.mk 4 s1 nL),(bW (nL + n1)),0)
                     else
                      if s1 == ([61]:Str) then
                       some ((aS.mk 4 s1 nL),(bW (nL + n1)),0)
                      else
                       if s1 == ([40]:Str) then
                        some ((aS.mk 4 s1 nL),(bW (nL + n1)),0)
                       else
                        if s1 == ([41]:Str) then
                         some ((aS.mk 4 s1 nL),(bW (nL + n1)),0)
                        else
                         if s1 == ([91]:Str) then
                          some ((aS.mk 4 s1 nL),(bW (nL + n1)),0)
                         else
                          if s1 == ([93]:Str) then
                           some ((aS.mk 4 s1 nL),(bW (nL + n1)),0)
                          else
                           if s1 == ([123]:Str) then
                            some ((aS.mk 4 s1 nL),(bW (nL + n1)),0)
                           else
                            if s1 == ([125]:Str) then
                             some ((aS.mk 4 s1 nL),(bW (nL + n1)),0)
                            else
                             p9 iM nL bP (bW (x1 + 1))
  else
   some ((aS.mk 0 ([]:Str) 0),0,5)
def Dj (iM:Str) (nL:Int):Option (aS × Int × Int):=
 p9 iM nL BIG 0
def Jh (iM:Str) (nL:Int):Option (aS × Int × Int):=
 au (idx iM nL) fun c1=>
 au (yU c1) fun x1=>
 if x1 then
  Lf iM nL
 else
  au (xO c1) fun x5=>
  if x5 then
   GL iM nL
  else
   if (c1.toNat:Int) == 34 then
    none
   else
    Dj iM nL
def Dk (op1:Str) (pY:Int):Option Int:=
 if op1 == ([40]:Str) then
  some (bW (pY + 1))
 else
  if op1 == ([91]:Str) then
   some (bW (pY + 1))
  else
   if op1 == ([41]:Str) then
    some (if 0 < (bW (pY - 1)) then (bW (pY - 1)) else 0)
   else
    if op1 == ([93]:Str) then
     some (if 0 < (bW (pY - 1)) then (bW (pY - 1)) else 0)
    else
     some pY
def kE (iM:Str):Nat→List aS→Int→Int→Nat→Option (List aS × Int × Int)
 | 0,_,_,_,_=>none
 | bP + 1,bM,FL,pY,pos1=>
  if decide (pos1 < iM.length) then
   au (
     if decide ((pos1:Int) < FL) then
      some true
     else
      Dl ((dec iM pos1).1:Int)) fun b1=>
   if b1 then
    kE iM bP bM FL pY (pos1 + (dec iM pos1).2)
   else
    if ((dec iM pos1).1:Int) == 35 then
     au (Bd iM (pos1:Int) yX) fun afb=>
     kE iM bP bM afb pY (pos1 + (dec iM pos1).2)
    else
     if ((dec iM pos1).1:Int) == 10 then
      au (
        if pY == 0 then
         if (bM.length:Int) == 0 then
          some true
         else
          au (idx bM (bW ((bM.length:Int) - 1))) fun e1=>
          some (e1.kind != 5)
        else
         some false) fun b2=>
      if b2 then
       au (app bM [(aS.mk 5 ([]:Str) (pos1:Int))]) fun zW=>
       kE iM bP zW FL pY (pos1 + (dec iM pos1).2)
      else
       kE iM bP bM FL pY (pos1 + (dec iM pos1).2)
     else
      H_ (Jh iM (pos1:Int)) fun x2 Ku e2=>
      if e2 != 0 then
       some ([],(pos1:Int),e2)
      else
       if x2.kind == 4 then
        au (Dk x2.text pY) fun ae6=>
        au (app bM [x2]) fun ajU=>
        kE iM bP ajU Ku ae6 (pos1 + (dec iM pos1).2)
       else
        au (app bM [x2]) fun ajT=>
        kE iM bP ajT Ku pY (pos1 + (dec iM pos1).2)
  else
   some (bM,0,0)
def GN (iM:Str):Option (List aS × Int × Int):=
 if decide (65536 < (iM.length:Int)) then
  some ([],0,3)
 else
  kE iM BIG [] 0 0 0
def wz (c1:UInt8):Option Bool:=
 some ((((decide (97≤(c1.toNat:Int))) && (decide ((c1.toNat:Int)≤122))) || ((decide (65≤(c1.toNat:Int))) && (decide ((c1.toNat:Int)≤90)))) || ((c1.toNat:Int) == 95))
def yN (c1:UInt8):Option Bool:=
 some ((decide (48≤(c1.toNat:Int))) && (decide ((c1.toNat:Int)≤57)))
def qO (s1:Str):Nat→Int→Option Bool
 | 0,_=>none
 | bP + 1,i1=>
  if decide (i1 < (s1.length:Int)) then
   au (idx s1 i1) fun x3=>
   au (wz x3) fun x4=>
   au (
     if !x4 then
      au (idx s1 i1) fun x5=>
      au (yN x5) fun x6=>
      some (!x6)
     else
      some false) fun b2=>
   if b2 then
    some false
   else
    qO s1 bP (bW (i1 + 1))
  else
   some true
def xL (s1:Str):Option Bool:=
 au (
   if (decide ((s1.length:Int) < 1)) || (decide (64 < (s1.length:Int))) then
    some true
   else
    au (idx s1 0) fun x1=>
    au (wz x1) fun x2=>
    some (!x2)) fun b1=>
 if b1 then
  some false
 else
  qO s1 BIG 0
def strconv_Itoa (n1:Int):Option Str:=
 if -9223372036854775808≤n1∧n1≤9223372036854775807 then some (um n1) else none
def strconv_Atoi (s1:Str):Option (Int × Option Nat):=
 if s1.length≤281474976710656 then some ((zG s1).2,if (zG s1).1=0 then none else some 279) else none
def sW (s1:Str):Nat→Int→Option Bool
 | 0,_=>none
 | bP + 1,i1=>
  if decide (i1 < (s1.length:Int)) then
   au (idx s1 i1) fun x2=>
   au (yN x2) fun x3=>
   if !x3 then
    some false
   else
    sW s1 bP (bW (i1 + 1))
  else
   fP (strconv_Atoi s1) fun n1 afF=>
   some ((afF.isNone) && (decide (n1≤9007199254740992)))
def Dg (s1:Str):Option Bool:=
 au (
   if s1 == ([]:Str) then
    some true
   else
    if decide (1 < (s1.length:Int)) then
     au (idx s1 0) fun x1=>
     some ((x1.toNat:Int) == 48)
    else
     some false) fun b1=>
 if b1 then
  some false
 else
  sW s1 BIG 0
def I9 (t1:aS):Option Bool:=
 if t1.kind == 1 then
  xL t1.text
 else
  if t1.kind == 2 then
   Dg t1.text
  else
   if t1.kind == 3 then
    some (decide ((t1.text.length:Int)≤4096))
   else
    if t1.kind == 4 then
     some true
    else
     some false
def oL (tX:ay):Option (aS × ay):=
 au (
   if decide (tX.at_ < (tX.ts.length:Int)) then
    au (idx tX.ts tX.at_) fun e1=>
    I9 e1
   else
    some false) fun b1=>
 if b1 then
  au (idx tX.ts tX.at_) fun e2=>
  some (e2,tX)
 else
  some ((aS.mk 0 ([]:Str) 0),tX)
def zV (tX:ay) (op1:Str):Option (Bool × ay):=
 fP (oL tX) fun x1 y1=>
 some (((x1.kind == 4) && (x1.text == op1)),y1)
def f_ (tX:ay) (op1:Str):Option (Bool × ay):=
 fP (zV tX op1) fun x1 y1=>
 if !x1 then
  some (false,y1)
 else
  some (true,(ay.mk y1.ts (bW (y1.at_ + 1))))
def rJ (tX:ay):Option (fJ aK aS × ay):=
 if decide ((tX.ts.length:Int)≤tX.at_) then
  none
 else
  fP (oL tX) fun x1 y1=>
  if x1.kind == 0 then
   none
  else
   some (.ok x1,y1)
def qP (v1:ah):Option ak:=
 some (ak.mk 1 ([]:Str) v1 [] [])
def xJ (s1:Str):Option Bool:=
 some (((s1 == ([116,114,117,101]:Str)) || (s1 == ([102,97,108,115,101]:Str))) || (s1 == ([110,117,108,108]:Str)))
def wX (tX:ay) (s1:Str):Option (fJ aK ak × ay):=
 if s1 == ([110,117,108,108]:Str) then
  au (qP (ah.mk 0 false 0 ([]:Str) [] [])) fun x1=>
  some (.ok x1,tX)
 else
  au (xJ s1) fun x2=>
  if x2 then
   au (qP (ah.mk 1 (s1 == ([116,114,117,101]:Str)) 0 ([]:Str) [] [])) fun x3=>
   some (.ok x3,tX)
  else
   fP (f_ tX ([40]:Str)) fun x4 y1=>
   if x4 then
    none
   else
    some (.ok (ak.mk 2 s1 (ah.mk 0 false 0 ([]:Str) [] []) [] []),y1)
def iR (op1:Str):Option Int:=
 if op1 == ([124,124]:Str) then
  some 2
 else
  if op1 == ([38,38]:Str) then
   some 3
  else
   if op1 == ([61,61]:Str) then
    some 4
   else
    if op1 == ([33,61]:Str) then
     some 4
    else
     if op1 == ([60]:Str) then
      some 4
     else
      if op1 == ([60,61]:Str) then
       some 4
      else
       if op1 == ([62]:Str) then
        some 4
       else
        if op1 == ([62,61]:Str) then
         some 4
        else
         if op1 == ([43]:Str) then
          some 5
         else
          if op1 == ([45]:Str) then
           some 5
          else
           if op1 == ([42]:Str) then
            some 6
           else
            if op1 == ([47]:Str) then
             some 6
            else
             if op1 == ([37]:Str) then
              some 6
             else
              some 0
def pE (aR:ay→Option (fJ aK ak × ay)) (aQ:ay→Int→Option (fJ aK ak × ay)) (bq:ay→Option (fJ aK ak × ay)) (bA:ay→Option (fJ aK ak × ay)) (bI:ay→Option (fJ aK ak × ay)) (tX:ay):Option (fJ aK ak × ay):=
 uO (aQ tX 2) (fun e1 y2=>some (.bad e1,y2)) fun x1 y1=>
 fP (f_ y1 ([63]:Str)) fun x2 y3=>
 if !x2 then
  some (.ok x1,y3)
 else
  uO (aR y3) (fun e2 y5=>some (.bad e2,y5)) fun x3 y4=>
  none
def kV (aQ:ay→Int→Option (fJ aK ak × ay)) (n1:Int):Nat→ak→ay→Option (fJ aK ak × ay)
 | 0,_,_=>none
 | bP + 1,e3,y5=>
  fP (oL y5) fun x3 y6=>
  au (
    if x3.kind != 4 then
     some true
    else
     au (iR x3.text) fun x4=>
     some (x4 != n1)) fun b1=>
  if b1 then
   some (.ok e3,y6)
  else
   uO (aQ (ay.mk y6.ts (bW (y6.at_ + 1))) (bW (n1 + 1))) (fun e4 y8=>some (.bad e4,y8)) fun x5 y7=>
   if n1 == 4 then
    some (.ok (ak.mk 7 x3.text (ah.mk 0 false 0 ([]:Str) [] []) [e3,x5] []),y7)
   else
    kV aQ n1 bP (ak.mk 7 x3.text (ah.mk 0 false 0 ([]:Str) [] []) [e3,x5] []) y7
def pz (aR:ay→Option (fJ aK ak × ay)) (aQ:ay→Int→Option (fJ aK ak × ay)) (bq:ay→Option (fJ aK ak × ay)) (bA:ay→Option (fJ aK ak × ay)) (bI:ay→Option (fJ aK ak × ay)) (tX:ay) (n1:Int):Option (fJ aK ak × ay):=
 if n1 == 7 then
  uO (bq tX) (fun e1 y2=>some (.bad e1,y2)) fun x1 y1=>
  some (.ok x1,y1)
 else
  uO (aQ tX (bW (n1 + 1))) (fun e2 y4=>some (.bad e2,y4)) fun x2 y3=>
  kV aQ n1 BIG x2 y3
def nX (bq:ay→Option (fJ aK ak × ay)) (bA:ay→Option (fJ aK ak × ay)):Nat→Int→ay→Option (fJ aK ak × ay)
 | 0,_,_=>none
 | bP + 1,x1,y1=>
  if decide (x1 < (([([33]:Str),([45]:Str)]:List Str).length:Int)) then
   au (idx ([([33]:Str),([45]:Str)]:List Str) x1) fun op1=>
   fP (f_ y1 op1) fun x2 y2=>
   if x2 then
    uO (bq y2) (fun e1 y4=>some (.bad e1,y4)) fun x3 y3=>
    some (.ok (ak.mk 6 op1 (ah.mk 0 false 0 ([]:Str) [] []) [x3] []),y3)
   else
    nX bq bA bP (bW (x1 + 1)) y2
  else
   uO (bA y1) (fun e2 y6=>some (.bad e2,y6)) fun x4 y5=>
   some (.ok x4,y5)
def sN (aR:ay→Option (fJ aK ak × ay)) (aQ:ay→Int→Option (fJ aK ak × ay)) (bq:ay→Option (fJ aK ak × ay)) (bA:ay→Option (fJ aK ak × ay)) (bI:ay→Option (fJ aK ak × ay)) (tX:ay):Option (fJ aK ak × ay):=
 nX bq bA BIG 0 tX
def nY (aR:ay→Option (fJ aK ak × ay)):Nat→ak→ay→Option (fJ aK ak × ay)
 | 0,_,_=>none
 | bP + 1,e2,y3=>
  fP (f_ y3 ([46]:Str)) fun x2 y4=>
  if x2 then
   uO (rJ y4) (fun e3 y6=>some (.bad e3,y6)) fun x3 y5=>
   au (
     if x3.kind != 1 then
      some true
     else
      xJ x3.text) fun b1=>
   if b1 then
    none
   else
    nY aR bP (ak.mk 3 x3.text (ah.mk 0 false 0 ([]:Str) [] []) [e2] []) (ay.mk y5.ts (bW (y5.at_ + 1)))
  else
   fP (f_ y4 ([91]:Str)) fun x5 y7=>
   if x5 then
    uO (aR y7) (fun e4 y9=>some (.bad e4,y9)) fun x6 y8=>
    none
   else
    some (.ok e2,y7)
def sO (aR:ay→Option (fJ aK ak × ay)) (aQ:ay→Int→Option (fJ aK ak × ay)) (bq:ay→Option (fJ aK ak × ay)) (bA:ay→Option (fJ aK ak × ay)) (bI:ay→Option (fJ aK ak × ay)) (tX:ay):Option (fJ aK ak × ay):=
 uO (bI tX) (fun e1 y2=>some (.bad e1,y2)) fun x1 y1=>
 nY aR BIG x1 y1
def uh (aR:ay→Option (fJ aK ak × ay)) (aQ:ay→Int→Option (fJ aK ak × ay)) (bq:ay→Option (fJ aK ak × ay)) (bA:ay→Option (fJ aK ak × ay)) (bI:ay→Option (fJ aK ak × ay)) (tX:ay):Option (fJ aK ak × ay):=
 uO (rJ tX) (fun e1 y2=>some (.bad e1,y2)) fun x1 y1=>
 if x1.kind == 2 then
  fP (strconv_Atoi x1.text) fun n1 x2=>
  au (qP (ah.mk 2 false n1 ([]:Str) [] [])) fun x3=>
  some (.ok x3,(ay.mk y1.ts (bW (y1.at_ + 1))))
 else
  if x1.kind == 3 then
   au (qP (ah.mk 3 false 0 x1.text [] [])) fun x4=>
   some (.ok x4,(ay.mk y1.ts (bW (y1.at_ + 1))))
  else
   if x1.kind == 1 then
    uO (wX (ay.mk y1.ts (bW (y1.at_ + 1))) x1.text) (fun e2 y4=>some (.bad e2,y4)) fun x5 y3=>
    some (.ok x5,y3)
   else
    fP (f_ y1 ([40]:Str)) fun x6 y5=>
    if x6 then
     uO (aR y5) (fun e3 y7=>some (.bad e3,y7)) fun x7 y6=>
     none
    else
     fP (f_ y5 ([91]:Str)) fun x8 y8=>
     if x8 then
      none
     else
      fP (f_ y8 ([123]:Str)) fun x9 y9=>
      if x9 then
       none
      else
       none
mutual
def dB :Nat→ay→Option (fJ aK ak × ay)
 | 0,_=>none
 | k + 1,kr=>pE (dB k) (dA k) (dU k) (dV k) (eF k) kr
def dA :Nat→ay→Int→Option (fJ aK ak × ay)
 | 0,_,_=>none
 | k + 1,kr,Zq=>pz (dB k) (dA k) (dU k) (dV k) (eF k) kr Zq
def dU :Nat→ay→Option (fJ aK ak × ay)
 | 0,_=>none
 | k + 1,kr=>sN (dB k) (dA k) (dU k) (dV k) (eF k) kr
def dV :Nat→ay→Option (fJ aK ak × ay)
 | 0,_=>none
 | k + 1,kr=>sO (dB k) (dA k) (dU k) (dV k) (eF k) kr
def eF :Nat→ay→Option (fJ aK ak × ay)
 | 0,_=>none
 | k + 1,kr=>uh (dB k) (dA k) (dU k) (dV k) (eF k) kr
end
def xK (kr:ay):Option (fJ aK ak × ay):=dB BIG kr
def FI (kr:ay) (Zq:Int):Option (fJ aK ak × ay):=dA BIG kr Zq
def Kq (kr:ay):Option (fJ aK ak × ay):=dU BIG kr
def Kr (kr:ay):Option (fJ aK ak × ay):=dV BIG kr
def Lb (kr:ay):Option (fJ aK ak × ay):=eF BIG kr
def I_ (xC:List aS):Option (ak × Int × Int):=
 uO (xK (ay.mk xC 0)) (fun f1 _=>some ((ak.mk 0 ([]:Str) (ah.mk 0 false 0 ([]:Str) [] []) [] []),f1.at_,f1.code)) fun e1 r1=>
 some (e1,r1.at_,0)
def rZ (jJ:ak→Option Int) (e1:ak):Nat→Int→Int→Option Int
 | 0,_,_=>none
 | bP + 1,n1,x1=>
  if decide (x1 < (e1.args.length:Int)) then
   au (idx e1.args x1) fun e2=>
   au (jJ e2) fun x2=>
   rZ jJ e1 bP (bW (n1 + x2)) (bW (x1 + 1))
  else
   some n1
def yP (jJ:ak→Option Int) (e1:ak):Option Int:=
 rZ jJ e1 BIG 1 0
def kW :Nat→ak→Option Int
 | 0,_=>none
 | k + 1,iO=>yP (kW k) iO
def Ch (iO:ak):Option Int:=kW BIG iO
def Ep (v1:ah):Option Bool:=
 some ((((((v1.kind == 0) && (!v1.dM)) && (v1.dO == 0)) && (v1.bO == ([]:Str))) && ((v1.aI.length:Int) == 0)) && ((v1.keys.length:Int) == 0))
def rM (s1:Str):Option Bool:=
 au (xL s1) fun x1=>
 if x1 then
  au (xJ s1) fun x2=>
  some (!x2)
 else
  some false
def yL (e1:ak):Option Bool:=
 if e1.kind == 2 then
  rM e1.name
 else
  if e1.kind == 3 then
   rM e1.name
  else
   if e1.kind == 5 then
    rM e1.name
   else
    if e1.kind == 6 then
     some ((e1.name == ([33]:Str)) || (e1.name == ([45]:Str)))
    else
     if e1.kind == 7 then
      au (iR e1.name) fun x4=>
      some (decide (0 < x4))
     else
      some (e1.name == ([]:Str))
def yO (e1:ak):Option Bool:=
 if e1.kind == 1 then
  some ((e1.args.length:Int) == 0)
 else
  if e1.kind == 2 then
   some ((e1.args.length:Int) == 0)
  else
   if e1.kind == 3 then
    some ((e1.args.length:Int) == 1)
   else
    if e1.kind == 6 then
     some ((e1.args.length:Int) == 1)
    else
     if e1.kind == 4 then
      some ((e1.args.length:Int) == 2)
     else
      if e1.kind == 7 then
       some ((e1.args.length:Int) == 2)
      else
       if e1.kind == 8 then
        some ((e1.args.length:Int) == 3)
       else
        some true
def fV (s1:List Str) (f1:Str→Option Bool):Nat→Int→Option Int
 | 0,_=>none
 | bP + 1,i1=>
  if decide (i1 < (s1.length:Int)) then
   au (idx s1 i1) fun e1=>
   au (f1 e1) fun x1=>
   if x1 then
    some i1
   else
    fV s1 f1 bP (bW (i1 + 1))
  else
   some (-1)
def jf (s1:List Str) (f1:Str→Option Bool):Option Int:=
 fV s1 f1 BIG 0
def fZ (s1:List Str) (f1:Str→Option Bool):Option Bool:=
 au (jf s1 f1) fun x1=>
 some (decide (0≤x1))
def j6 (oZ:Str):Option Bool:=
 some ((decide ((oZ.length:Int) < 1)) || (decide (64 < (oZ.length:Int))))
def yM (e1:ak):Option Bool:=
 if e1.kind != 10 then
  some ((e1.keys.length:Int) == 0)
 else
  if (e1.keys.length:Int) == (e1.args.length:Int) then
   au (fZ e1.keys j6) fun x1=>
   some (!x1)
  else
   some false
def kM {β:Type} (go:β→ah→Int→Option (Bool × β)) (v1:ah) (bE:Int):Nat→β→Int→Option (Bool × β)
 | 0,_,_=>none
 | bP + 1,s1,i1=>
  if decide (i1 < (v1.aI.length:Int)) then
   au (idx v1.aI i1) fun x1=>
   fP (go s1 x1 (bW (bE + 1))) fun b1 s2=>
   if !b1 then
    some (false,s2)
   else
    kM go v1 bE bP s2 (bW (i1 + 1))
  else
   some (true,s1)
def uV {β:Type} (go:β→ah→Int→Option (Bool × β)) (y:β→Int→ah→Option (Bool × β)) (s1:β) (v1:ah) (bE:Int):Option (Bool × β):=
 fP (y s1 bE v1) fun b1 s2=>
 if !b1 then
  some (false,s2)
 else
  kM go v1 bE BIG s2 0
def fQ {β:Type} (y:β→Int→ah→Option (Bool × β)):Nat→β→ah→Int→Option (Bool × β)
 | 0,_,_,_=>none
 | k + 1,s1,v1,bE=>uV (fQ y k) y s1 v1 bE
def CW {β:Type} (y:β→Int→ah→Option (Bool × β)) (s1:β) (v1:ah) (bE:Int):Option (Bool × β):=fQ y BIG s1 v1 bE
def BU (v1:ah):Option Bool:=
 some ((((((v1.kind == 1) || (!v1.dM)) && ((v1.kind == 2) || (v1.dO == 0))) && ((v1.kind == 3) || (v1.bO == ([]:Str)))) && (((v1.kind == 4) || (v1.kind == 5)) || ((v1.aI.length:Int) == 0))) && ((v1.kind == 5) || ((v1.keys.length:Int) == 0)))
def Eu (c1:UInt8):Option Bool:=
 some ((decide (48≤(c1.toNat:Int))) && (decide ((c1.toNat:Int)≤57)))
def yZ (s1:Str):Nat→Int→Option Int
 | 0,_=>none
 | bP + 1,n1=>
  au (
    if decide (n1 < (s1.length:Int)) then
     au (idx s1 n1) fun x1=>
     Eu x1
    else
     some false) fun b1=>
  if b1 then
   yZ s1 bP (bW (n1 + 1))
  else
   some n1
def CR (s1:Str):Option Int:=
 yZ s1 BIG 0
def gY (c1:UInt8):Nat→Str→Option Str
 | 0,_=>none
 | bP + 1,s2=>
  au (
    if decide (0 < (s2.length:Int)) then
     au (idx s2 0) fun x1=>
     some ((x1.toNat:Int) == (c1.toNat:Int))
    else
     some false) fun b1=>
  if b1 then
   au (sl s2 1 (s2.length:Int)) fun s3=>
   gY c1 bP s3
  else
   some s2
def strings_trimLeftByte (s1:Str) (c1:UInt8):Option Str:=
 gY c1 BIG s1
def oC (s1:Str) (EB:Str):Option Str:=
 if (s1 == ([]:Str)) || (EB == ([]:Str)) then
  some s1
 else
  au (
    if (EB.length:Int) == 1 then
     au (idx EB 0) fun x1=>
     some (decide ((x1.toNat:Int) < 128))
    else
     some false) fun b1=>
  if b1 then
   au (idx EB 0) fun x2=>
   strings_trimLeftByte s1 x2
  else
   none
def cmp_isNaN_int (x1:Int):Option Bool:=
 some (x1 != x1)
def cmp_Compare_int (x1:Int) (y1:Int):Option Int:=
 au (cmp_isNaN_int x1) fun OH=>
 au (cmp_isNaN_int y1) fun Ip=>
 if OH then
  if Ip then
   some 0
  else
   some (-1)
 else
  if Ip then
   some 1
  else
   if decide (x1 < y1) then
    some (-1)
   else
    if decide (y1 < x1) then
     some 1
    else
     some 0
def cmp_isNaN_string (x1:Str):Option Bool:=
 some (!(x1 == x1))
def mq (x1:Str) (y1:Str):Option Int:=
 au (cmp_isNaN_string x1) fun OH=>
 au (cmp_isNaN_string y1) fun Ip=>
 if OH then
  if Ip then
   some 0
  else
   some (-1)
 else
  if Ip then
   some 1
  else
   if Go.Op.bytesLess x1 y1 then
    some (-1)
   else
    if !(Go.Op.bytesLess x1 y1 || x1 == y1) then
     some 1
    else
     some 0
def wG (Ho:List Int):Nat→Int→Option Int
 | 0,_=>none
 | bP + 1,x1=>
  if decide (x1 < (Ho.length:Int)) then
   au (idx Ho x1) fun acp=>
   if acp != 0 then
    some acp
   else
    wG Ho bP (bW (x1 + 1))
  else
   some 0
def Dz (Ho:List Int):Option Int:=
 wG Ho BIG 0
def wD (a1:Str) (b1:Str):Option Int:=
 au (oC a1 ([48]:Str)) fun x1=>
 au (oC b1 ([48]:Str)) fun y1=>
 au (cmp_Compare_int (x1.length:Int) (y1.length:Int)) fun x2=>
 au (mq x1 y1) fun x3=>
 au (cmp_Compare_int (a1.length:Int) (b1.length:Int)) fun x4=>
 Dz ([x2,x3,x4]:List Int)
def uE (x1:UInt8):Option Bool:=
 some ((x1.toNat:Int) != (x1.toNat:Int))
def qX (x1:UInt8) (y1:UInt8):Option Int:=
 au (uE x1) fun OH=>
 au (uE y1) fun Ip=>
 if OH then
  if Ip then
   some 0
  else
   some (-1)
 else
  if Ip then
   some 1
  else
   if decide ((x1.toNat:Int) < (y1.toNat:Int)) then
    some (-1)
   else
    if decide ((y1.toNat:Int) < (x1.toNat:Int)) then
     some 1
    else
     some 0
def jQ :Nat→Str→Str→Option Int
 | 0,_,_=>none
 | bP + 1,a2,b2=>
  if (!(a2 == ([]:Str))) && (!(b2 == ([]:Str))) then
   au (CR a2) fun n1=>
   au (CR b2) fun m1=>
   if (decide (0 < n1)) && (decide (0 < m1)) then
    au (sl a2 0 n1) fun x1=>
    au (sl b2 0 m1) fun x2=>
    au (wD x1 x2) fun c1=>
    if c1 != 0 then
     some c1
    else
     au (sl a2 n1 (a2.length:Int)) fun a3=>
     au (sl b2 m1 (b2.length:Int)) fun b3=>
     jQ bP a3 b3
   else
    au (idx a2 0) fun x3=>
    au (idx b2 0) fun x4=>
    if (x3.toNat:Int) != (x4.toNat:Int) then
     au (idx a2 0) fun x5=>
     au (idx b2 0) fun x6=>
     qX x5 x6
    else
     au (sl a2 1 (a2.length:Int)) fun a4=>
     au (sl b2 1 (b2.length:Int)) fun b4=>
     jQ bP a4 b4
  else
   cmp_Compare_int (a2.length:Int) (b2.length:Int)
def iW (a1:Str) (b1:Str):Option Int:=
 jQ BIG a1 b1
def qL (v1:ah):Nat→Int→Option Bool
 | 0,_=>none
 | bP + 1,i1=>
  if decide (i1 < (v1.keys.length:Int)) then
   au (idx v1.keys i1) fun oZ=>
   au (
     if (decide ((oZ.length:Int) < 1)) || (decide (64 < (oZ.length:Int))) then
      some true
     else
      if decide (0 < i1) then
       au (idx v1.keys (bW (i1 - 1))) fun e1=>
       au (iW e1 oZ) fun x1=>
       some (decide (0≤x1))
      else
       some false) fun b1=>
   if b1 then
    some false
   else
    qL v1 bP (bW (i1 + 1))
  else
   some true
def AB (v1:ah):Option Bool:=
 if (v1.keys.length:Int) != (v1.aI.length:Int) then
  some false
 else
  qL v1 BIG 0
def CX (v1:ah) (bE:Int):Option Int:=
 if decide (16 < bE) then
  some 13
 else
  au (
    if (decide (v1.kind < 0)) || (decide (5 < v1.kind)) then
     some true
    else
     au (BU v1) fun x1=>
     some (!x1)) fun b1=>
  if b1 then
   some 1
  else
   if (decide (v1.dO < (-9007199254740992))) || (decide (9007199254740992 < v1.dO)) then
    some 2
   else
    if ((decide (4096 < (v1.bO.length:Int))) || (decide (1024 < (v1.aI.length:Int)))) || (decide (1024 < (v1.keys.length:Int))) then
     some 3
    else
     au (
       if v1.kind == 5 then
        au (AB v1) fun x2=>
        some (!x2)
       else
        some false) fun b2=>
     if b2 then
      some 1
     else
      if (((v1.kind == 4) || (v1.kind == 5)) && ((v1.aI.length:Int) == 0)) && (bE == 16) then
       some 13
      else
       some 0
def mF (s1:Option Int) (bE:Int) (x1:ah):Option (Bool × Option Int):=
 match s1 with
 | some _=>none
 | none=>
  au (CX x1 bE) fun e1=>
  if !(e1 == 0) then
   some (false,some e1)
  else
   some (true,none)
def kH (v1:ah):Option Int:=
 fP (CW mF none v1 1) fun _ s1=>
 some (s1.getD 0)
def oK (l1:List Str):Nat→Int→List (Str × Int)→Option Bool
 | 0,_,_=>none
 | bP + 1,x1,y1=>
  if decide (x1 < (l1.length:Int)) then
   au (idx l1 x1) fun s1=>
   if decide (1 < (nN (rz y1 s1 (bW ((nN y1 s1) + 1))) s1)) then
    some true
   else
    oK l1 bP (bW (x1 + 1)) (rz y1 s1 (bW ((nN y1 s1) + 1)))
  else
   some false
def rY (l1:List Str):Option Bool:=
 oK l1 BIG 0 []
def Ba (e1:ak) (bE:Int):Option Int:=
 if decide (16 < bE) then
  some 13
 else
  au (
    if (decide (e1.kind < 1)) || (decide (10 < e1.kind)) then
     some true
    else
     if e1.kind != 1 then
      au (Ep e1.value) fun x1=>
      some (!x1)
     else
      some false) fun b1=>
  au (
    if b1 then
     some true
    else
     au (yL e1) fun x2=>
     some (!x2)) fun b3=>
  au (
    if b3 then
     some true
    else
     au (yO e1) fun x3=>
     some (!x3)) fun b4=>
  au (
    if b4 then
     some true
    else
     au (yM e1) fun x4=>
     some (!x4)) fun b5=>
  if b5 then
   some 1
  else
   au (
     if e1.kind == 1 then
      au (kH e1.value) fun x5=>
      some (x5 != 0)
     else
      some false) fun b6=>
   if b6 then
    kH e1.value
   else
    if decide (1024 < (e1.args.length:Int)) then
     some 3
    else
     au (rY e1.keys) fun x7=>
     if x7 then
      some 7
     else
      some 0
def rW (jI:ak→Int→Option Int) (e1:ak) (bE:Int):Nat→Int→Option Int
 | 0,_=>none
 | bP + 1,x1=>
  if decide (x1 < (e1.args.length:Int)) then
   au (idx e1.args x1) fun e2=>
   au (jI e2 (bW (bE + 1))) fun f2=>
   if f2 != 0 then
    some f2
   else
    rW jI e1 bE bP (bW (x1 + 1))
  else
   some 0
def yK (jI:ak→Int→Option Int) (e1:ak) (bE:Int):Option Int:=
 au (Ba e1 bE) fun f1=>
 if f1 != 0 then
  some f1
 else
  rW jI e1 bE BIG 0
def kU :Nat→ak→Int→Option Int
 | 0,_,_=>none
 | k + 1,iO,dZ=>yK (kU k) iO dZ
def GD (iO:ak) (dZ:Int):Option Int:=kU BIG iO dZ
def jh (e1:ak):Option Int:=
 au (Ch e1) fun x1=>
 if decide (4096 < x1) then
  some 15
 else
  GD e1 1
def Ja (xC:List aS):Option (ak × Int × Int):=
 H_ (I_ xC) fun x1 n1 EC=>
 if EC != 0 then
  some ((ak.mk 0 ([]:Str) (ah.mk 0 false 0 ([]:Str) [] []) [] []),n1,EC)
 else
  au (jh x1) fun U7=>
  if U7 != 0 then
   some ((ak.mk 0 ([]:Str) (ah.mk 0 false 0 ([]:Str) [] []) [] []),0,U7)
  else
   some (x1,n1,0)
def vw (iM:Str):Option (ak × Int × Int):=
 H_ (GN iM) fun xC nL EC=>
 if EC != 0 then
  some ((ak.mk 0 ([]:Str) (ah.mk 0 false 0 ([]:Str) [] []) [] []),nL,EC)
 else
  H_ (Ja xC) fun x1 n1 U7=>
  if U7 != 0 then
   none
  else
   if decide (n1 < (xC.length:Int)) then
    au (idx xC n1) fun e1=>
    some ((ak.mk 0 ([]:Str) (ah.mk 0 false 0 ([]:Str) [] []) [] []),e1.at_,5)
   else
    some (x1,0,0)
def fT (bR:List Int):Nat→Int→aW→Option aW
 | 0,_,_=>none
 | bP + 1,x1,s1=>
  if decide (x1 < (bR.length:Int)) then
   au (idx bR x1) fun kC=>
   if kC == 1 then
    fT bR bP (bW (x1 + 1)) s1
   else
    if kC == 3 then
     fT bR bP (bW (x1 + 1)) (aW.mk s1.cancelled s1.failure true false)
    else
     if kC == 4 then
      fT bR bP (bW (x1 + 1)) (aW.mk true s1.failure s1.skipped false)
     else
      if kC == 2 then
       fT bR bP (bW (x1 + 1)) (aW.mk s1.cancelled true s1.skipped false)
      else
       fT bR bP (bW (x1 + 1)) (aW.mk s1.cancelled s1.failure s1.skipped false)
  else
   some s1
def nS (bR:List Int):Option aW:=
 fT bR BIG 0 (aW.mk false false false true)
def lK (name1:Str) (b1:Bool):Option aB:=
 some (aB.mk name1 (ah.mk 1 b1 0 ([]:Str) [] []))
def kD (s1:List Str):Option (List Str):=
 app [] s1
def mo (v1:ah):Option ah:=
 if v1.bulk≤xX then some v1 else none
def qW (bU:List aB):Nat→List aB→Int→Option (List aB)
 | 0,_,_=>none
 | bP + 1,bM,x7=>
  if decide (x7 < (bU.length:Int)) then
   au (idx bU x7) fun e1=>
   au (mo e1.value) fun x8=>
   au (app bM [(aB.mk e1.name x8)]) fun zW=>
   qW bU bP zW (bW (x7 + 1))
  else
   some bM
def sH (bR:List Int) (bU:List aB):Option (List aB):=
 au (nS bR) fun x1=>
 au (lK ([97,108,119,97,121,115]:Str) true) fun x2=>
 au (lK ([99,97,110,99,101,108,108,101,100]:Str) x1.cancelled) fun x3=>
 au (lK ([102,97,105,108,117,114,101]:Str) x1.failure) fun x4=>
 au (lK ([115,107,105,112,112,101,100]:Str) x1.skipped) fun x5=>
 au (lK ([115,117,99,99,101,115,115]:Str) x1.success) fun x6=>
 qW bU BIG [x2,x3,x4,x5,x6] 0
def Bl (b_:List aB):Nat→Int→List (Str × Int)→Option Int
 | 0,_,_=>none
 | bP + 1,x1,y1=>
  if decide (x1 < (b_.length:Int)) then
   au (idx b_ x1) fun e1=>
   au (jh (ak.mk 2 e1.name (ah.mk 0 false 0 ([]:Str) [] []) [] [])) fun x2=>
   if x2 != 0 then
    some 1
   else
    au (kH e1.value) fun e2=>
    if e2 != 0 then
     some e2
    else
     if decide (1 < (nN (rz y1 e1.name (bW ((nN y1 e1.name) + 1))) e1.name)) then
      some 7
     else
      Bl b_ bP (bW (x1 + 1)) (rz y1 e1.name (bW ((nN y1 e1.name) + 1)))
  else
   some 0
def Js (b_:List aB):Option Int:=
 if decide (1024 < (b_.length:Int)) then
  some 3
 else
  Bl b_ BIG 0 []
def Ez (e1:ak) (b_:List aB):Option (List aB × Int):=
 au (Js b_) fun f1=>
 if f1 != 0 then
  some ([],f1)
 else
  au (jh e1) fun f2=>
  if f2 != 0 then
   some ([],f2)
  else
   some (b_,0)
def Ab (e1:Int):Option (fJ aD Unit):=
 some (.bad (aD.mk e1))
def oP (s1:List aB) (name1:Str):Nat→Int→Option (fJ aD ah)
 | 0,_=>none
 | bP + 1,x1=>
  if decide (x1 < (s1.length:Int)) then
   au (idx s1 x1) fun e1=>
   if e1.name == name1 then
    some (.ok e1.value)
   else
    oP s1 name1 bP (bW (x1 + 1))
  else
   dN (Ab 10) (fun e2=>some (.bad e2)) fun _=>
   some (.ok (ah.mk 0 false 0 ([]:Str) [] []))
def r_ (s1:List aB) (name1:Str):Option (fJ aD ah):=
 oP s1 name1 BIG 0
def mh (s1:Str):Option ah:=
 some (ah.mk 3 false 0 s1 [] [])
def iB (v1:ah) (dJ:Int):Option Bool:=
 some (v1.kind == dJ)
def dK (ok1:Bool) (e1:Int):Option (fJ aD Unit):=
 if !ok1 then
  dN (Ab e1) (fun e2=>some (.bad e2)) fun _=>
  some (.ok ())
 else
  some (.ok ())
def gW (s1:List Str) (v1:Str):Nat→Int→Option Int
 | 0,_=>none
 | bP + 1,i1=>
  if decide (i1 < (s1.length:Int)) then
   au (idx s1 i1) fun e1=>
   if v1 == e1 then
    some i1
   else
    gW s1 v1 bP (bW (i1 + 1))
  else
   some (-1)
def iQ (s1:List Str) (v1:Str):Option Int:=
 gW s1 v1 BIG 0
def tO (j_:ah→Option ah) (v1:ah):Nat→Int→ah→Option ah
 | 0,_,_=>none
 | bP + 1,x2,bM=>
  if decide (x2 < (v1.aI.length:Int)) then
   au (idx v1.aI x2) fun e1=>
   au (j_ e1) fun x3=>
   au (app bM.aI [x3]) fun x4=>
   tO j_ v1 bP (bW (x2 + 1)) (ah.mk bM.kind bM.dM bM.dO bM.bO x4 bM.keys)
  else
   some bM
def Af (j_:ah→Option ah) (v1:ah):Option ah:=
 au (kD v1.keys) fun x1=>
 tO j_ v1 BIG 0 (ah.mk v1.kind v1.dM v1.dO v1.bO [] x1)
def kN :Nat→ah→Option ah
 | 0,_=>none
 | k + 1,qH=>Af (kN k) qH
def mR (qH:ah):Option ah:=kN BIG qH
def zJ (v1:ah) (key1:Str):Option (ah × Bool):=
 au (iQ v1.keys key1) fun i1=>
 if ((v1.kind != 5) || (decide (i1 < 0))) || (decide ((v1.aI.length:Int)≤i1)) then
  some ((ah.mk 0 false 0 ([]:Str) [] []),false)
 else
  au (idx v1.aI i1) fun e1=>
  au (mR e1) fun x1=>
  some (x1,true)
def w_ (m1:ah) (key1:ah):Option (fJ aD ah):=
 au (iB m1 5) fun x1=>
 au (
   if x1 then
    iB key1 3
   else
    some false) fun b1=>
 dN (dK b1 9) (fun e1=>some (.bad e1)) fun _=>
 fP (zJ m1 key1.bO) fun x3 ok1=>
 dN (dK ok1 8) (fun e2=>some (.bad e2)) fun _=>
 some (.ok x3)
def vI (a1:ah) (i1:ah):Option (fJ aD ah):=
 au (iB a1 4) fun x1=>
 au (
   if x1 then
    iB i1 2
   else
    some false) fun b1=>
 if b1 then
  dN (dK ((decide (0≤i1.dO)) && (decide (i1.dO < (a1.aI.length:Int)))) 8) (fun e1=>some (.bad e1)) fun _=>
  au (idx a1.aI i1.dO) fun e2=>
  some (.ok e2)
 else
  dN (w_ a1 i1) (fun e3=>some (.bad e3)) fun x3=>
  some (.ok x3)
def xg (name1:Str):Option Int:=
 if name1 == ([108,101,110]:Str) then
  some 1
 else
  if name1 == ([108,111,119,101,114]:Str) then
   some 1
  else
   if name1 == ([117,112,112,101,114]:Str) then
    some 1
   else
    if name1 == ([115,116,114,105,110,103]:Str) then
     some 1
    else
     if name1 == ([105,110,116]:Str) then
      some 1
     else
      if name1 == ([107,101,121,115]:Str) then
       some 1
      else
       if name1 == ([99,111,110,116,97,105,110,115]:Str) then
        some 2
       else
        if name1 == ([106,111,105,110]:Str) then
         some 2
        else
         if name1 == ([115,112,108,105,116]:Str) then
          some 2
         else
          if name1 == ([115,116,97,114,116,115,119,105,116,104]:Str) then
           some 2
          else
           if name1 == ([101,110,100,115,119,105,116,104]:Str) then
            some 2
           else
            if name1 == ([100,101,102,97,117,108,116]:Str) then
             some 2
            else
             some 0
def qg (n1:Int):Option ah:=
 some (ah.mk 2 false n1 ([]:Str) [] [])
def Dv (l1:List ah):Option ah:=
 some (ah.mk 4 false 0 ([]:Str) l1 [])
def zi (l1:List Str):Nat→Int→ah→Option ah
 | 0,_,_=>none
 | bP + 1,x1,bM=>
  if decide (x1 < (l1.length:Int)) then
   au (idx l1 x1) fun s1=>
   au (mh s1) fun x2=>
   au (app bM.aI [x2]) fun x3=>
   zi l1 bP (bW (x1 + 1)) (ah.mk bM.kind bM.dM bM.dO bM.bO x3 bM.keys)
  else
   some bM
def z_ (l1:List Str):Option ah:=
 zi l1 BIG 0 (ah.mk 4 false 0 ([]:Str) [] [])
def qc (b1:Bool):Option Str:=
 if b1 then
  some ([116,114,117,101]:Str)
 else
  some ([102,97,108,115,101]:Str)
def strconv_FormatBool (b1:Bool):Option Str:=
 qc b1
def mQ (s1:Str):Nat→Int→Str→Option Str
 | 0,_,_=>none
 | bP + 1,i1,b2=>
  if decide (i1 < (s1.length:Int)) then
   au (idx s1 i1) fun c1=>
   if ((c1.toNat:Int) == 34) || ((c1.toNat:Int) == 92) then
    au (app b2 [92]) fun b3=>
    au (app b3 [c1]) fun b4=>
    mQ s1 bP (bW (i1 + 1)) b4
   else
    if (c1.toNat:Int) == 10 then
     au (app b2 ([92,110]:Str)) fun b5=>
     mQ s1 bP (bW (i1 + 1)) b5
    else
     if (c1.toNat:Int) == 9 then
      au (app b2 ([92,116]:Str)) fun b6=>
      mQ s1 bP (bW (i1 + 1)) b6
     else
      if (decide (32≤(c1.toNat:Int))) && (decide ((c1.toNat:Int)≤126)) then
       au (app b2 [c1]) fun b7=>
       mQ s1 bP (bW (i1 + 1)) b7
      else
       au (app b2 ([92,120]:Str)) fun b8=>
       au (idx ([48,49,50,51,52,53,54,55,56,57,97,98,99,100,101,102]:Str) ((c1 / 16).toNat:Int)) fun x1=>
       au (app b8 [x1]) fun b9=>
       au (idx ([48,49,50,51,52,53,54,55,56,57,97,98,99,100,101,102]:Str) ((c1 % 16).toNat:Int)) fun x2=>
       au (app b9 [x2]) fun b10=>
       mQ s1 bP (bW (i1 + 1)) b10
  else
   app b2 [34]
def AA (s1:Str):Option Str:=
 au (app [] [34]) fun b1=>
 mQ s1 BIG 0 b1
def strings_Join (l1:List Str) (t1:Str):Option Str:=
 if l1.length≤140737488355328∧(nP l1 t1).length≤140737488355328 then some (nP l1 t1) else none
def qK (eG:ah→Option Str) (v1:ah):Nat→List Str→Int→Option Str
 | 0,_,_=>none
 | bP + 1,BJ,i1=>
  if decide (i1 < (v1.aI.length:Int)) then
   au (idx v1.aI i1) fun e1=>
   if v1.kind == 5 then
    au (idx v1.keys i1) fun e2=>
    au (AA e2) fun x4=>
    au (app x4 ([58,32]:Str)) fun x5=>
    au (eG e1) fun x6=>
    au (app x5 x6) fun x7=>
    au (app BJ ([x7]:List Str)) fun Z9=>
    qK eG v1 bP Z9 (bW (i1 + 1))
   else
    au (eG e1) fun x8=>
    au (app BJ ([x8]:List Str)) fun Z8=>
    qK eG v1 bP Z8 (bW (i1 + 1))
  else
   au (strings_Join BJ ([44,32]:Str)) fun s3=>
   if v1.kind == 5 then
    au (app ([123]:Str) s3) fun x9=>
    app x9 ([125]:Str)
   else
    au (app ([91]:Str) s3) fun Hl=>
    app Hl ([93]:Str)
def uW (eG:ah→Option Str) (v1:ah):Nat→List Str→Int→Option Str
 | 0,_,_=>none
 | Ke + 1,EW,i2=>
  if decide (i2 < (v1.aI.length:Int)) then
   au (idx v1.aI i2) fun e3=>
   au (idx v1.keys i2) fun e4=>
   au (AA e4) fun KZ=>
   au (app KZ ([58,32]:Str)) fun SQ=>
   au (eG e3) fun OI=>
   au (app SQ OI) fun Iu=>
   au (app EW ([Iu]:List Str)) fun Z7=>
   uW eG v1 Ke Z7 (bW (i2 + 1))
  else
   au (strings_Join EW ([44,32]:Str)) fun s5=>
   au (app ([123]:Str) s5) fun SN=>
   app SN ([125]:Str)
def wH (eG:ah→Option Str) (v1:ah):Option Str:=
 if v1.kind == 1 then
  strconv_FormatBool v1.dM
 else
  if v1.kind == 2 then
   strconv_Itoa v1.dO
  else
   if v1.kind == 3 then
    AA v1.bO
   else
    if v1.kind == 4 then
     qK eG v1 BIG [] 0
    else
     if v1.kind == 5 then
      uW eG v1 BIG [] 0
     else
      some ([110,117,108,108]:Str)
def pF :Nat→ah→Option Str
 | 0,_=>none
 | k + 1,qH=>wH (pF k) qH
def ER (qH:ah):Option Str:=pF BIG qH
def CY (v1:ah):Option (Str × Int):=
 if (v1.kind == 4) || (v1.kind == 5) then
  some (([]:Str),9)
 else
  au (kH v1) fun e1=>
  if e1 != 0 then
   some (([]:Str),e1)
  else
   if v1.kind == 0 then
    some (([]:Str),0)
   else
    if v1.kind == 3 then
     some (v1.bO,0)
    else
     au (ER v1) fun x1=>
     some (x1,0)
def qV (s1:Str) (lo1:UInt8) (hi1:UInt8) (Fe:Int):Nat→Int→Str→Option Str
 | 0,_,_=>none
 | bP + 1,i1,b1=>
  if decide (i1 < (s1.length:Int)) then
   au (idx s1 i1) fun x1=>
   au (
     if decide ((lo1.toNat:Int)≤(x1.toNat:Int)) then
      au (idx s1 i1) fun x2=>
      some (decide ((x2.toNat:Int)≤(hi1.toNat:Int)))
     else
      some false) fun b2=>
   if b2 then
    au (idx s1 i1) fun x3=>
    au (app b1 [(Ft.byteOf (bW ((x3.toNat:Int) + Fe)))]) fun b3=>
    qV s1 lo1 hi1 Fe bP (bW (i1 + 1)) b3
   else
    au (idx s1 i1) fun x4=>
    au (app b1 [x4]) fun b4=>
    qV s1 lo1 hi1 Fe bP (bW (i1 + 1)) b4
  else
   some b1
def xS (s1:Str) (lo1:UInt8) (hi1:UInt8) (Fe:Int):Option Str:=
 qV s1 lo1 hi1 Fe BIG 0 []
def uz (s1:Str):Option (Int × Bool):=
 fP (strconv_Atoi s1) fun n1 afF=>
 au (
   if afF.isSome then
    some true
   else
    au (strconv_Itoa n1) fun x1=>
    some (!(x1 == s1))) fun b1=>
 if (b1 || (decide (n1 < (-9007199254740992)))) || (decide (9007199254740992 < n1)) then
  some (0,false)
 else
  some (n1,true)
def Jr (name1:Str) (v1:ah):Option (fJ aD ah):=
 if name1 == ([108,101,110]:Str) then
  au (iB v1 3) fun x1=>
  au (
    if x1 then
     some true
    else
     iB v1 4) fun b1=>
  au (
    if b1 then
     some true
    else
     iB v1 5) fun b2=>
  dN (dK b2 9) (fun e1=>some (.bad e1)) fun _=>
  au (qg (bW ((v1.bO.length:Int) + (v1.aI.length:Int)))) fun x4=>
  some (.ok x4)
 else
  if name1 == ([107,101,121,115]:Str) then
   au (iB v1 5) fun x5=>
   dN (dK x5 9) (fun e2=>some (.bad e2)) fun _=>
   au (z_ v1.keys) fun x6=>
   some (.ok x6)
  else
   if name1 == ([115,116,114,105,110,103]:Str) then
    fP (CY v1) fun t1 e3=>
    dN (dK (e3 == 0) e3) (fun e4=>some (.bad e4)) fun _=>
    au (mh t1) fun x7=>
    some (.ok x7)
   else
    au (iB v1 3) fun x8=>
    dN (dK x8 9) (fun e5=>some (.bad e5)) fun _=>
    if name1 == ([108,111,119,101,114]:Str) then
     au (xS v1.bO 65 90 32) fun x9=>
     au (mh x9) fun BH=>
     some (.ok BH)
    else
     if name1 == ([117,112,112,101,114]:Str) then
      au (xS v1.bO 97 122 (-32)) fun Hl=>
      au (mh Hl) fun Kn=>
      some (.ok Kn)
     else
      fP (uz v1.bO) fun n1 ok1=>
      dN (dK ok1 1) (fun e6=>some (.bad e6)) fun _=>
      au (qg n1) fun KZ=>
      some (.ok KZ)
def tN (b1:Bool):Option Int:=
 if b1 then
  some 1
 else
  some 0
def bS (wT:List ah) (zL:List ah) (JC:ah→ah→Option Int):Nat→Int→Option Int
 | 0,_=>none
 | bP + 1,i1=>
  if decide (i1 < (wT.length:Int)) then
   au (idx wT i1) fun e1=>
   if decide ((zL.length:Int)≤i1) then
    some 1
   else
    au (idx zL i1) fun e2=>
    au (JC e1 e2) fun c1=>
    if c1 != 0 then
     some c1
    else
     bS wT zL JC bP (bW (i1 + 1))
  else
   if decide ((wT.length:Int) < (zL.length:Int)) then
    some (-1)
   else
    some 0
def bL (wT:List ah) (zL:List ah) (JC:ah→ah→Option Int):Option Int:=
 bS wT zL JC BIG 0
def dH (wT:List Str) (zL:List Str) (JC:Str→Str→Option Int):Nat→Int→Option Int
 | 0,_=>none
 | bP + 1,i1=>
  if decide (i1 < (wT.length:Int)) then
   au (idx wT i1) fun ak2=>
   if decide ((zL.length:Int)≤i1) then
    some 1
   else
    au (idx zL i1) fun ak1=>
    au (JC ak2 ak1) fun c1=>
    if c1 != 0 then
     some c1
    else
     dH wT zL JC bP (bW (i1 + 1))
  else
   if decide ((wT.length:Int) < (zL.length:Int)) then
    some (-1)
   else
    some 0
def dP (wT:List Str) (zL:List Str) (JC:Str→Str→Option Int):Option Int:=
 dH wT zL JC BIG 0
def wI (jR:ah→ah→Option Int) (a1:ah) (b1:ah):Option Int:=
 au (cmp_Compare_int a1.kind b1.kind) fun c1=>
 if c1 != 0 then
  some c1
 else
  if a1.kind == 1 then
   au (tN a1.dM) fun x1=>
   au (tN b1.dM) fun x2=>
   cmp_Compare_int x1 x2
  else
   if a1.kind == 2 then
    cmp_Compare_int a1.dO b1.dO
   else
    if a1.kind == 3 then
     mq a1.bO b1.bO
    else
     if a1.kind == 4 then
      bL a1.aI b1.aI jR
     else
      if a1.kind == 5 then
       au (dP a1.keys b1.keys iW) fun c2=>
       if c2 != 0 then
        some c2
       else
        bL a1.aI b1.aI jR
      else
       some 0
def iN :Nat→ah→ah→Option Int
 | 0,_,_=>none
 | k + 1,pI,pG=>wI (iN k) pI pG
def wh (pI:ah) (pG:ah):Option Int:=iN BIG pI pG
def mU (a1:ah) (b1:ah):Option Bool:=
 au (wh a1 b1) fun x1=>
 some (x1 == 0)
def pK (a1:ah) (b1:ah) (oZ:Int):Option Bool:=
 some ((a1.kind == oZ) && (b1.kind == oZ))
def strings_Contains (s1:Str) (t1:Str):Option Bool:=
 if s1.length < 4294967281 then some (lN s1 t1).isSome else none
def oF (a1:ah) (b1:ah):Nat→Int→Option (fJ aD Bool)
 | 0,_=>none
 | bP + 1,x2=>
  if decide (x2 < (a1.aI.length:Int)) then
   au (idx a1.aI x2) fun e1=>
   au (mU e1 b1) fun x3=>
   if x3 then
    some (.ok true)
   else
    oF a1 b1 bP (bW (x2 + 1))
  else
   some (.ok false)
def wE (a1:ah) (b1:ah):Option (fJ aD Bool):=
 au (iB a1 4) fun x1=>
 if x1 then
  oF a1 b1 BIG 0
 else
  au (pK a1 b1 3) fun x4=>
  if x4 then
   au (strings_Contains a1.bO b1.bO) fun x5=>
   some (.ok x5)
  else
   au (iB a1 5) fun x6=>
   au (
     if x6 then
      iB b1 3
     else
      some false) fun b2=>
   dN (dK b2 9) (fun e2=>some (.bad e2)) fun _=>
   fP (zJ a1 b1.bO) fun x8 ok1=>
   some (.ok ok1)
def eT (b1:Bool):Option ah:=
 some (ah.mk 1 b1 0 ([]:Str) [] [])
def uD (a1:ah) (b1:ah):Nat→Int→List Str→Int→Option (fJ aD ah)
 | 0,_,_,_=>none
 | bP + 1,n1,l1,x3=>
  if decide (x3 < (a1.aI.length:Int)) then
   au (idx a1.aI x3) fun e2=>
   au (iB e2 3) fun x4=>
   dN (dK x4 9) (fun e3=>some (.bad e3)) fun _=>
   au (app l1 ([e2.bO]:List Str)) fun l2=>
   uD a1 b1 bP (bW (n1 + (e2.bO.length:Int))) l2 (bW (x3 + 1))
  else
   dN (dK (decide ((bW (n1 + (bW ((b1.bO.length:Int) * (if 0 < (bW ((l1.length:Int) - 1)) then (bW ((l1.length:Int) - 1)) else 0)))))≤4096)) 3) (fun e4=>some (.bad e4)) fun _=>
   au (strings_Join l1 b1.bO) fun x5=>
   au (mh x5) fun x6=>
   some (.ok x6)
def Bj (a1:ah) (b1:ah):Option (fJ aD ah):=
 au (iB a1 4) fun x1=>
 au (
   if x1 then
    iB b1 3
   else
    some false) fun b2=>
 dN (dK b2 9) (fun e1=>some (.bad e1)) fun _=>
 uD a1 b1 BIG 0 [] 0
def qR (s1:Str) (yJ:Str):Option Bool:=
 if decide ((yJ.length:Int)≤(s1.length:Int)) then
  au (sl s1 0 (yJ.length:Int)) fun x1=>
  some (x1 == yJ)
 else
  some false
def strings_HasPrefix (s1:Str) (yJ:Str):Option Bool:=
 qR s1 yJ
def qQ (s1:Str) (yu:Str):Option Bool:=
 if decide ((yu.length:Int)≤(s1.length:Int)) then
  au (sl s1 (bW ((s1.length:Int) - (yu.length:Int))) (s1.length:Int)) fun x1=>
  some (x1 == yu)
 else
  some false
def strings_HasSuffix (s1:Str) (yu:Str):Option Bool:=
 qQ s1 yu
def strings_Split (s1:Str) (t1:Str):Option (List Str):=
 if s1.length < 4294967281∧t1≠[] then some (nV t1 (s1.length + 1) s1) else none
def Jq (name1:Str) (a1:ah) (b1:ah):Option (fJ aD ah):=
 if name1 == ([100,101,102,97,117,108,116]:Str) then
  au (iB a1 0) fun x1=>
  if x1 then
   some (.ok b1)
  else
   some (.ok a1)
 else
  if name1 == ([99,111,110,116,97,105,110,115]:Str) then
   dN (wE a1 b1) (fun e1=>some (.bad e1)) fun x2=>
   au (eT x2) fun x3=>
   some (.ok x3)
  else
   if name1 == ([106,111,105,110]:Str) then
    dN (Bj a1 b1) (fun e2=>some (.bad e2)) fun x4=>
    some (.ok x4)
   else
    au (pK a1 b1 3) fun x5=>
    dN (dK x5 9) (fun e3=>some (.bad e3)) fun _=>
    if name1 == ([115,116,97,114,116,115,119,105,116,104]:Str) then
     au (strings_HasPrefix a1.bO b1.bO) fun x6=>
     au (eT x6) fun x7=>
     some (.ok x7)
    else
     if name1 == ([101,110,100,115,119,105,116,104]:Str) then
      au (strings_HasSuffix a1.bO b1.bO) fun x8=>
      au (eT x8) fun x9=>
      some (.ok x9)
     else
      dN (dK (!(b1.bO == ([]:Str))) 1) (fun e4=>some (.bad e4)) fun _=>
      au (strings_Split a1.bO b1.bO) fun l1=>
      dN (dK (decide ((l1.length:Int)≤1024)) 3) (fun e5=>some (.bad e5)) fun _=>
      au (z_ l1) fun BH=>
      some (.ok BH)
def uy (v1:ah):Option (fJ aD Bool):=
 au (iB v1 1) fun x1=>
 dN (dK x1 9) (fun e1=>some (.bad e1)) fun _=>
 some (.ok v1.dM)
def Du (op1:Str) (v1:ah):Option (fJ aD ah):=
 if op1 == ([33]:Str) then
  dN (uy v1) (fun e1=>some (.bad e1)) fun x1=>
  au (eT (!x1)) fun x2=>
  some (.ok x2)
 else
  au (iB v1 2) fun x3=>
  dN (dK x3 9) (fun e2=>some (.bad e2)) fun _=>
  au (qg (bW (0 - v1.dO))) fun x4=>
  some (.ok x4)
def nJ (a1:ah) (b1:ah):Option (fJ aD Int):=
 au (pK a1 b1 2) fun x1=>
 au (
   if x1 then
    some true
   else
    pK a1 b1 3) fun b2=>
 dN (dK b2 9) (fun e1=>some (.bad e1)) fun _=>
 au (wh a1 b1) fun x3=>
 some (.ok x3)
def rE (n1:Int):Option (fJ aD ah):=
 dN (dK ((decide ((-9007199254740992)≤n1)) && (decide (n1≤9007199254740992))) 11) (fun e1=>some (.bad e1)) fun _=>
 au (qg n1) fun x1=>
 some (.ok x1)
def F4 (a1:ah) (b1:ah):Option (fJ aD ah):=
 au (pK a1 b1 2) fun x1=>
 if x1 then
  dN (rE (bW (a1.dO + b1.dO))) (fun e1=>some (.bad e1)) fun x2=>
  some (.ok x2)
 else
  au (pK a1 b1 3) fun x3=>
  if x3 then
   dN (dK (decide ((bW ((a1.bO.length:Int) + (b1.bO.length:Int)))≤4096)) 3) (fun e2=>some (.bad e2)) fun _=>
   au (app a1.bO b1.bO) fun x4=>
   au (mh x4) fun x5=>
   some (.ok x5)
  else
   au (pK a1 b1 4) fun x6=>
   dN (dK x6 9) (fun e3=>some (.bad e3)) fun _=>
   dN (dK (decide ((bW ((a1.aI.length:Int) + (b1.aI.length:Int)))≤1024)) 3) (fun e4=>some (.bad e4)) fun _=>
   au (app [] a1.aI) fun l1=>
   au (app l1 b1.aI) fun x7=>
   au (Dv x7) fun x8=>
   some (.ok x8)
def Jc (n1:Int):Option (BitVec 64):=
 if decide (n1 < 0) then
  some (-(BitVec.ofInt 64 n1))
 else
  some (BitVec.ofInt 64 n1)
def Ci (a1:Int) (b1:Int):Option iI:=
 au (Jc a1) fun x1=>
 au (Jc b1) fun y1=>
 au (some ((x1 &&& (4294967295:BitVec 64)) * (y1 &&& (4294967295:BitVec 64)))) fun Rc=>
 au (some ((x1 >>> 32) * (y1 &&& (4294967295:BitVec 64)))) fun x2=>
 au (some ((x1 &&& (4294967295:BitVec 64)) * (y1 >>> 32))) fun x3=>
 au (some ((x2 + (Rc >>> 32)) &&& (4294967295:BitVec 64))) fun x4=>
 au (some (((x1 >>> 32) * (y1 >>> 32)) + ((x2 + (Rc >>> 32)) >>> 32))) fun x5=>
 au (some (((x3 + x4) <<< 32) ||| (Rc &&& (4294967295:BitVec 64)))) fun x6=>
 some (iI.mk ([(x5 + ((x3 + x4) >>> 32)),x6]:List (BitVec 64)) ((!((decide (a1 < 0)) == (decide (b1 < 0)))) && (!decide (([((x5 + ((x3 + x4) >>> 32)).toNat:Int),(x6.toNat:Int)]:List Int)=([0,0]:List Int)))))
def rO (p1:iI):Option (Int × Bool):=
 if ((p1.half.getD 0 0).toNat:Int) != 0 then
  some (0,false)
 else
  if p1.neg && (decide (((p1.half.getD 1 0).toNat:Int)≤9223372036854775808)) then
   some ((bW ((-(p1.half.getD 1 0)).toNat:Int)),true)
  else
   if (!p1.neg) && (decide (((p1.half.getD 1 0).toNat:Int)≤9223372036854775807)) then
    some ((bW ((p1.half.getD 1 0).toNat:Int)),true)
   else
    some (0,false)
def VU (aht:Bool):Option Int:=
 if aht then
  some (-9223372036854775808)
 else
  some 9223372036854775807
def MP (a1:Int) (b1:Int):Option Int:=
 au (Ci a1 b1) fun x1=>
 fP (rO x1) fun n1 ok1=>
 if ok1 then
  some n1
 else
  VU x1.neg
def pO (op1:Str) (a1:ah) (b1:ah):Option (fJ aD ah):=
 au (pK a1 b1 2) fun x1=>
 dN (dK x1 9) (fun e1=>some (.bad e1)) fun _=>
 if op1 == ([45]:Str) then
  dN (rE (bW (a1.dO - b1.dO))) (fun e2=>some (.bad e2)) fun x2=>
  some (.ok x2)
 else
  if op1 == ([42]:Str) then
   au (MP a1.dO b1.dO) fun x3=>
   dN (rE x3) (fun e3=>some (.bad e3)) fun x4=>
   some (.ok x4)
  else
   dN (dK (b1.dO != 0) 12) (fun e4=>some (.bad e4)) fun _=>
   if op1 == ([47]:Str) then
    au (chk (!(b1.dO == 0))) fun _=>
    dN (rE (bW ((a1.dO:Int).tdiv b1.dO))) (fun e5=>some (.bad e5)) fun x5=>
    some (.ok x5)
   else
    au (chk (!(b1.dO == 0))) fun _=>
    au (qg ((a1.dO:Int).tmod b1.dO)) fun x6=>
    some (.ok x6)
def rV (bE:Int) (x1:ah):Int:=if (x1.kind == 4 || x1.kind == 5) && ((x1.aI.length:Int) == 0) then bW (bE + 1) else bE
def gL (ait:Int) (bE:Int) (x1:ah):Option (Bool × Int):=
 some (true,if ait < rV bE x1 then rV bE x1 else ait)
def yj (v1:ah):Option Int:=
 fP (CW gL 0 v1 1) fun _ s1=>
 some s1
def mE (y1:aB) (c1:aB):Option Bool:=
 some (y1.name == c1.name)
def fH (s1:List aB) (f1:aB→Option Bool):Nat→Int→Option Int
 | 0,_=>none
 | bP + 1,i1=>
  if decide (i1 < (s1.length:Int)) then
   au (idx s1 i1) fun e1=>
   au (f1 e1) fun x1=>
   if x1 then
    some i1
   else
    fH s1 f1 bP (bW (i1 + 1))
  else
   some (-1)
def iG (s1:List aB) (f1:aB→Option Bool):Option Int:=
 fH s1 f1 BIG 0
def fI (s1:List aB) (f1:aB→Option Bool):Option Bool:=
 au (iG s1 f1) fun x1=>
 some (decide (0≤x1))
def AJ (bU:List aB) (i1:Int):Option Int:=
 au (idx bU i1) fun e1=>
 if (decide ((e1.name.length:Int) < 1)) || (decide (64 < (e1.name.length:Int))) then
  some 1
 else
  au (kH e1.value) fun e2=>
  if e2 != 0 then
   some e2
  else
   au (yj e1.value) fun x1=>
   if decide (16≤x1) then
    some 13
   else
    au (sl bU 0 i1) fun x2=>
    au (fI x2 (fun z0=>mE z0 e1)) fun x3=>
    if x3 then
     some 7
    else
     some 0
def eZ (s1:List aB):Option (List aB):=
 app [] s1
def OM (a1:aB) (b1:aB):Option Int:=
 iW a1.name b1.name
def uX (sU:List aB):Nat→Int→ah→Option (ah × Int)
 | 0,_,_=>none
 | Ke + 1,x1,bM=>
  if decide (x1 < (sU.length:Int)) then
   au (idx sU x1) fun e2=>
   au (app bM.keys ([e2.name]:List Str)) fun x2=>
   au (mR e2.value) fun x3=>
   au (app bM.aI [x3]) fun x4=>
   uX sU Ke (bW (x1 + 1)) (ah.mk bM.kind bM.dM bM.dO bM.bO x4 x2)
  else
   some (bM,0)
def uY (bU:List aB):Nat→Int→Option (ah × Int)
 | 0,_=>none
 | bP + 1,i1=>
  if decide (i1 < (bU.length:Int)) then
   au (AJ bU i1) fun e1=>
   if e1 != 0 then
    some ((ah.mk 0 false 0 ([]:Str) [] []),e1)
   else
    uY bU bP (bW (i1 + 1))
  else
   au (eZ bU) fun PZ=>
   au (Uu (fun x=>x.name) PZ) fun sU=>
   uX sU BIG 0 (ah.mk 5 false 0 ([]:Str) [] [])
def CB (bU:List aB):Option (ah × Int):=
 if decide (1024 < (bU.length:Int)) then
  some ((ah.mk 0 false 0 ([]:Str) [] []),3)
 else
  uY bU BIG 0
def tu (aY:List aB→ak→Option (fJ aD ah)) (bV:List aB→ak→Option (fJ aD ah)) (bT:List aB→List ak→Option (fJ aD (List ah))) (bN:List aB→ak→Option (fJ aD ah)) (bJ:List aB→ak→Option (fJ aD ah)) (s1:List aB) (e1:ak):Option (fJ aD ah):=
 if e1.kind == 1 then
  some (.ok e1.value)
 else
  if e1.kind == 2 then
   dN (r_ s1 e1.name) (fun e2=>some (.bad e2)) fun x1=>
   some (.ok x1)
  else
   if e1.kind == 3 then
    au (idx e1.args 0) fun e3=>
    dN (aY s1 e3) (fun e4=>some (.bad e4)) fun x2=>
    au (mh e1.name) fun x3=>
    dN (w_ x2 x3) (fun e5=>some (.bad e5)) fun x4=>
    some (.ok x4)
   else
    if e1.kind == 4 then
     au (idx e1.args 0) fun e6=>
     dN (aY s1 e6) (fun e7=>some (.bad e7)) fun x5=>
     au (idx e1.args 1) fun e8=>
     dN (aY s1 e8) (fun e9=>some (.bad e9)) fun x6=>
     dN (vI x5 x6) (fun e10=>some (.bad e10)) fun x7=>
     some (.ok x7)
    else
     if e1.kind == 5 then
      dN (bV s1 e1) (fun e11=>some (.bad e11)) fun x8=>
      some (.ok x8)
     else
      if e1.kind == 6 then
       au (idx e1.args 0) fun e12=>
       dN (aY s1 e12) (fun e13=>some (.bad e13)) fun x9=>
       dN (Du e1.name x9) (fun e14=>some (.bad e14)) fun BH=>
       some (.ok BH)
      else
       if e1.kind == 7 then
        dN (bN s1 e1) (fun e15=>some (.bad e15)) fun Hl=>
        some (.ok Hl)
       else
        if e1.kind == 8 then
         au (idx e1.args 0) fun e16=>
         dN (aY s1 e16) (fun e17=>some (.bad e17)) fun Kn=>
         dN (uy Kn) (fun e18=>some (.bad e18)) fun KZ=>
         if KZ then
          au (idx e1.args 1) fun e19=>
          dN (aY s1 e19) (fun e20=>some (.bad e20)) fun SQ=>
          some (.ok SQ)
         else
          au (idx e1.args 2) fun e21=>
          dN (aY s1 e21) (fun e22=>some (.bad e22)) fun OI=>
          some (.ok OI)
        else
         if e1.kind == 9 then
          dN (bT s1 e1.args) (fun e23=>some (.bad e23)) fun Iu=>
          au (Dv Iu) fun SN=>
          au (kH SN) fun Zp=>
          dN (dK (Zp == 0) 13) (fun e24=>some (.bad e24)) fun _=>
          some (.ok SN)
         else
          dN (bJ s1 e1) (fun e25=>some (.bad e25)) fun Zx=>
          some (.ok Zx)
def qd (aY:List aB→ak→Option (fJ aD ah)) (bV:List aB→ak→Option (fJ aD ah)) (bT:List aB→List ak→Option (fJ aD (List ah))) (bN:List aB→ak→Option (fJ aD ah)) (bJ:List aB→ak→Option (fJ aD ah)) (s1:List aB) (e1:ak):Option (fJ aD ah):=
 au (xg e1.name) fun n1=>
 dN (dK (decide (0 < n1)) 10) (fun e2=>some (.bad e2)) fun _=>
 dN (dK ((e1.args.length:Int) == n1) 1) (fun e3=>some (.bad e3)) fun _=>
 dN (bT s1 e1.args) (fun e4=>some (.bad e4)) fun args1=>
 if n1 == 1 then
  au (idx args1 0) fun e5=>
  dN (Jr e1.name e5) (fun e6=>some (.bad e6)) fun x1=>
  some (.ok x1)
 else
  au (idx args1 0) fun e7=>
  au (idx args1 1) fun e8=>
  dN (Jq e1.name e7 e8) (fun e9=>some (.bad e9)) fun x2=>
  some (.ok x2)
def ny (aY:List aB→ak→Option (fJ aD ah)) (s1:List aB) (l1:List ak):Nat→List ah→Int→Option (fJ aD (List ah))
 | 0,_,_=>none
 | bP + 1,bM,x1=>
  if decide (x1 < (l1.length:Int)) then
   au (idx l1 x1) fun e1=>
   dN (aY s1 e1) (fun e2=>some (.bad e2)) fun x2=>
   au (app bM [x2]) fun zW=>
   ny aY s1 l1 bP zW (bW (x1 + 1))
  else
   some (.ok bM)
def Aa (aY:List aB→ak→Option (fJ aD ah)) (bV:List aB→ak→Option (fJ aD ah)) (bT:List aB→List ak→Option (fJ aD (List ah))) (bN:List aB→ak→Option (fJ aD ah)) (bJ:List aB→ak→Option (fJ aD ah)) (s1:List aB) (l1:List ak):Option (fJ aD (List ah)):=
 ny aY s1 l1 BIG [] 0
def nR (aY:List aB→ak→Option (fJ aD ah)) (bV:List aB→ak→Option (fJ aD ah)) (bT:List aB→List ak→Option (fJ aD (List ah))) (bN:List aB→ak→Option (fJ aD ah)) (bJ:List aB→ak→Option (fJ aD ah)) (s1:List aB) (e1:ak):Option (fJ aD ah):=
 au (idx e1.args 0) fun e2=>
 dN (aY s1 e2) (fun e3=>some (.bad e3)) fun x1=>
 if (e1.name == ([38,38]:Str)) || (e1.name == ([124,124]:Str)) then
  dN (uy x1) (fun e4=>some (.bad e4)) fun x2=>
  if x2 == (e1.name == ([124,124]:Str)) then
   some (.ok x1)
  else
   au (idx e1.args 1) fun e5=>
   dN (aY s1 e5) (fun e6=>some (.bad e6)) fun x3=>
   dN (uy x3) (fun e7=>some (.bad e7)) fun x4=>
   au (eT x4) fun x5=>
   some (.ok x5)
 else
  au (idx e1.args 1) fun e8=>
  dN (aY s1 e8) (fun e9=>some (.bad e9)) fun x6=>
  if e1.name == ([61,61]:Str) then
   au (mU x1 x6) fun x7=>
   au (eT x7) fun x8=>
   some (.ok x8)
  else
   if e1.name == ([33,61]:Str) then
    au (mU x1 x6) fun x9=>
    au (eT (!x9)) fun BH=>
    some (.ok BH)
   else
    if e1.name == ([60]:Str) then
     dN (nJ x1 x6) (fun e10=>some (.bad e10)) fun Hl=>
     au (eT (decide (Hl < 0))) fun Kn=>
     some (.ok Kn)
    else
     if e1.name == ([60,61]:Str) then
      dN (nJ x1 x6) (fun e11=>some (.bad e11)) fun KZ=>
      au (eT (decide (KZ≤0))) fun SQ=>
      some (.ok SQ)
     else
      if e1.name == ([62]:Str) then
       dN (nJ x1 x6) (fun e12=>some (.bad e12)) fun OI=>
       au (eT (decide (0 < OI))) fun Iu=>
       some (.ok Iu)
      else
       if e1.name == ([62,61]:Str) then
        dN (nJ x1 x6) (fun e13=>some (.bad e13)) fun SN=>
        au (eT (decide (0≤SN))) fun Zp=>
        some (.ok Zp)
       else
        if e1.name == ([43]:Str) then
         dN (F4 x1 x6) (fun e14=>some (.bad e14)) fun Zx=>
         some (.ok Zx)
        else
         dN (pO e1.name x1 x6) (fun e15=>some (.bad e15)) fun x20=>
         some (.ok x20)
def lY (e1:ak) (x1:List ah):Nat→List aB→Int→Option (fJ aD ah)
 | 0,_,_=>none
 | bP + 1,bU,i1=>
  if decide (i1 < (x1.length:Int)) then
   au (idx x1 i1) fun e3=>
   au (idx e1.keys i1) fun e4=>
   au (app bU [(aB.mk e4 e3)]) fun Qt=>
   lY e1 x1 bP Qt (bW (i1 + 1))
  else
   fP (CB bU) fun x2 EC=>
   dN (dK (EC == 0) EC) (fun e5=>some (.bad e5)) fun _=>
   some (.ok x2)
def m_ (aY:List aB→ak→Option (fJ aD ah)) (bV:List aB→ak→Option (fJ aD ah)) (bT:List aB→List ak→Option (fJ aD (List ah))) (bN:List aB→ak→Option (fJ aD ah)) (bJ:List aB→ak→Option (fJ aD ah)) (s1:List aB) (e1:ak):Option (fJ aD ah):=
 dN (bT s1 e1.args) (fun e2=>some (.bad e2)) fun x1=>
 lY e1 x1 BIG [] 0
mutual
def bX :Nat→List aB→ak→Option (fJ aD ah)
 | 0,_,_=>none
 | k + 1,wK,iO=>tu (bX k) (dS k) (eH k) (dI k) (dx k) wK iO
def dS :Nat→List aB→ak→Option (fJ aD ah)
 | 0,_,_=>none
 | k + 1,wK,iO=>qd (bX k) (dS k) (eH k) (dI k) (dx k) wK iO
def eH :Nat→List aB→List ak→Option (fJ aD (List ah))
 | 0,_,_=>none
 | k + 1,wK,Pn=>Aa (bX k) (dS k) (eH k) (dI k) (dx k) wK Pn
def dI :Nat→List aB→ak→Option (fJ aD ah)
 | 0,_,_=>none
 | k + 1,wK,iO=>nR (bX k) (dS k) (eH k) (dI k) (dx k) wK iO
def dx :Nat→List aB→ak→Option (fJ aD ah)
 | 0,_,_=>none
 | k + 1,wK,iO=>m_ (bX k) (dS k) (eH k) (dI k) (dx k) wK iO
end
def BL (wK:List aB) (iO:ak):Option (fJ aD ah):=bX BIG wK iO
def PE (wK:List aB) (iO:ak):Option (fJ aD ah):=dS BIG wK iO
def RI (wK:List aB) (Pn:List ak):Option (fJ aD (List ah)):=eH BIG wK Pn
def Nf (wK:List aB) (iO:ak):Option (fJ aD ah):=dI BIG wK iO
def Lv (wK:List aB) (iO:ak):Option (fJ aD ah):=dx BIG wK iO
def zk (s1:List aB) (e1:ak):Option (ah × Int):=
 dN (BL s1 e1) (fun f1=>some ((ah.mk 0 false 0 ([]:Str) [] []),f1.code)) fun v1=>
 some (v1,0)
def wF (kS:ah→Option ah) (v1:ah):Nat→Int→ah→Option ah
 | 0,_,_=>none
 | bP + 1,x1,bM=>
  if decide (x1 < (v1.aI.length:Int)) then
   au (idx v1.aI x1) fun e1=>
   au (kS e1) fun x2=>
   au (app bM.aI [x2]) fun x3=>
   wF kS v1 bP (bW (x1 + 1)) (ah.mk bM.kind bM.dM bM.dO bM.bO x3 bM.keys)
  else
   au (app bM.keys v1.keys) fun x4=>
   some (ah.mk bM.kind bM.dM bM.dO bM.bO bM.aI x4)
def Cn (kS:ah→Option ah) (v1:ah):Option ah:=
 wF kS v1 BIG 0 (ah.mk v1.kind v1.dM v1.dO v1.bO [] [])
def mO :Nat→ah→Option ah
 | 0,_=>none
 | k + 1,qH=>Cn (mO k) qH
def xk (qH:ah):Option ah:=mO BIG qH
def F5 (e1:ak) (b_:List aB):Option (ah × Int):=
 fP (Ez e1 b_) fun s1 f1=>
 if f1 != 0 then
  some ((ah.mk 0 false 0 ([]:Str) [] []),f1)
 else
  fP (zk s1 e1) fun x1 f2=>
  au (xk x1) fun x2=>
  some (x2,f2)
def oU (iK:ak) (bR:List Int) (bU:List aB):Option (Bool × Int):=
 au (sH bR bU) fun x1=>
 fP (F5 iK x1) fun x2 e1=>
 if e1 != 0 then
  some (false,e1)
 else
  if x2.kind != 1 then
   some (false,9)
  else
   some (x2.dM,0)
def oN (iM:Str) (bR:List Int):Option (Bool × Int):=
 H_ (vw iM) fun x1 x2 f1=>
 if f1 != 0 then
  some (false,f1)
 else
  oU x1 bR []
def nC :Option ak:=
 some (ak.mk 2 ([115,117,99,99,101,115,115]:Str) (ah.mk 0 false 0 ([]:Str) [] []) [] [])
def xB (dJ:Int):Option Str:=
 if (decide (dJ < 0)) || (decide (8≤dJ)) then
  some ([]:Str)
 else
  idx ([([97,110,121]:Str),([110,117,108,108]:Str),([98,111,111,108]:Str),([105,110,116]:Str),([115,116,114,105,110,103]:Str),([108,105,115,116]:Str),([109,97,112]:Str),([110,101,118,101,114]:Str)]:List Str) dJ
def iy (dJ:Int):Option Bool:=
 some ((dJ == 5) || (dJ == 6))
def ku :Nat→Int→aj→Option Int
 | 0,_,_=>none
 | bP + 1,bE,t2=>
  if decide (16 < bE) then
   some 13
  else
   au (xB t2.kind) fun x1=>
   au (
     if x1 == ([]:Str) then
      some true
     else
      au (iy t2.kind) fun x2=>
      some (x2 && ((t2.elem.length:Int) != 1))) fun b1=>
   au (
     if b1 then
      some true
     else
      au (iy t2.kind) fun x3=>
      some ((!x3) && ((t2.elem.length:Int) != 0))) fun b2=>
   if b2 then
    some 1
   else
    au (iy t2.kind) fun x4=>
    if !x4 then
     some 0
    else
     au (idx t2.elem 0) fun e1=>
     ku bP (bW (bE + 1)) e1
def jO (t1:aj):Option Int:=
 ku BIG 1 t1
def zq (b_:List aG):Nat→Int→List (Str × Int)→Option Int
 | 0,_,_=>none
 | bP + 1,x1,y1=>
  if decide (x1 < (b_.length:Int)) then
   au (idx b_ x1) fun e1=>
   au (jh (ak.mk 2 e1.name (ah.mk 0 false 0 ([]:Str) [] []) [] [])) fun x2=>
   if x2 != 0 then
    some 1
   else
    au (jO e1.o7) fun e2=>
    if e2 != 0 then
     some e2
    else
     if decide (1 < (nN (rz y1 e1.name (bW ((nN y1 e1.name) + 1))) e1.name)) then
      some 7
     else
      zq b_ bP (bW (x1 + 1)) (rz y1 e1.name (bW ((nN y1 e1.name) + 1)))
  else
   some 0
def Gc (b_:List aG):Option Int:=
 if decide (1024 < (b_.length:Int)) then
  some 3
 else
  zq b_ BIG 0 []
def eB (dJ:Int):Option aj:=
 some (aj.mk dJ [])
def kZ (dJ:Int) (iL:aj):Option aj:=
 some (aj.mk dJ [iL])
def iX (name1:Str):Option (List (List aj) × aj):=
 au (eB 0) fun x1=>
 au (eB 3) fun x2=>
 au (eB 4) fun x3=>
 au (eB 2) fun x4=>
 au (kZ 5 x1) fun x5=>
 au (kZ 6 x1) fun x6=>
 au (kZ 5 x3) fun x7=>
 if name1 == ([108,101,110]:Str) then
  some ([[x3],[x5],[x6]],x2)
 else
  if name1 == ([99,111,110,116,97,105,110,115]:Str) then
   some ([[x5,x1],[x3,x3],[x6,x3]],x4)
  else
   if name1 == ([106,111,105,110]:Str) then
    some ([[x7,x3]],x3)
   else
    if name1 == ([115,116,114,105,110,103]:Str) then
     au (eB 1) fun x8=>
     some ([[x8],[x4],[x2],[x3]],x3)
    else
     if name1 == ([108,111,119,101,114]:Str) then
      some ([[x3]],x3)
     else
      if name1 == ([117,112,112,101,114]:Str) then
       some ([[x3]],x3)
      else
       if name1 == ([115,112,108,105,116]:Str) then
        some ([[x3,x3]],x7)
       else
        if name1 == ([115,116,97,114,116,115,119,105,116,104]:Str) then
         some ([[x3,x3]],x4)
        else
         if name1 == ([101,110,100,115,119,105,116,104]:Str) then
          some ([[x3,x3]],x4)
         else
          if name1 == ([105,110,116]:Str) then
           some ([[x3]],x2)
          else
           if name1 == ([100,101,102,97,117,108,116]:Str) then
            some ([[x1,x1]],x1)
           else
            if name1 == ([107,101,121,115]:Str) then
             some ([[x6]],x7)
            else
             some ([],x1)
def eP (t1:aj):Option Bool:=
 some ((t1.kind == 0) || (t1.kind == 7))
def kG (lF:aj→aj→Option Bool) (t1:aj) (u1:aj):Option Bool:=
 au (eP t1) fun x1=>
 if x1 || (u1.kind == 0) then
  some true
 else
  if t1.kind != u1.kind then
   some false
  else
   if ((t1.elem.length:Int) == 1) && ((u1.elem.length:Int) == 1) then
    au (idx t1.elem 0) fun e1=>
    au (idx u1.elem 0) fun e2=>
    lF e1 e2
   else
    some true
def gU :Nat→aj→aj→Option Bool
 | 0,_,_=>none
 | k + 1,wJ,Pm=>kG (gU k) wJ Pm
def ig (wJ:aj) (Pm:aj):Option Bool:=gU BIG wJ Pm
def qY (xC:List aj) (Az:List aj):Nat→Int→Option Bool
 | 0,_=>none
 | bP + 1,i1=>
  if decide (i1 < (Az.length:Int)) then
   au (idx xC i1) fun e1=>
   au (idx Az i1) fun e2=>
   au (ig e1 e2) fun x1=>
   if !x1 then
    some false
   else
    qY xC Az bP (bW (i1 + 1))
  else
   some true
def qh (xC:List aj) (Az:List aj):Option Bool:=
 qY xC Az BIG 0
def fA (dJ:Int):Option aj:=
 some (aj.mk dJ [])
def oz (dJ:Int) (iL:aj):Option aj:=
 some (aj.mk dJ [iL])
def tV (pJ:aj→Option aj) (t1:aj):Option aj:=
 au (iy t1.kind) fun x1=>
 if !x1 then
  fA t1.kind
 else
  au (idx t1.elem 0) fun e1=>
  au (pJ e1) fun x3=>
  oz t1.kind x3
def mV :Nat→aj→Option aj
 | 0,_=>none
 | k + 1,wJ=>tV (mV k) wJ
def BX (wJ:aj):Option aj:=mV BIG wJ
def qA (qU:aj→aj→Option aj) (a1:aj) (b1:aj):Option aj:=
 if a1.kind == 7 then
  BX b1
 else
  if b1.kind == 7 then
   BX a1
  else
   if a1.kind != b1.kind then
    fA 0
   else
    au (iy a1.kind) fun x4=>
    if x4 then
     au (idx a1.elem 0) fun e1=>
     au (idx b1.elem 0) fun e2=>
     au (qU e1 e2) fun x5=>
     oz a1.kind x5
    else
     fA a1.kind
def kP :Nat→aj→aj→Option aj
 | 0,_,_=>none
 | k + 1,pI,pG=>qA (kP k) pI pG
def AP (pI:aj) (pG:aj):Option aj:=kP BIG pI pG
def tQ (kg:ah→Option aj) (v1:ah):Nat→Int→aj→Option aj
 | 0,_,_=>none
 | bP + 1,x6,iL=>
  if decide (x6 < (v1.aI.length:Int)) then
   au (idx v1.aI x6) fun e1=>
   au (kg e1) fun x7=>
   au (AP iL x7) fun x8=>
   tQ kg v1 bP (bW (x6 + 1)) x8
  else
   if v1.kind == 4 then
    oz 5 iL
   else
    oz 6 iL
def Ah (kg:ah→Option aj) (v1:ah):Option aj:=
 if v1.kind == 0 then
  fA 1
 else
  if v1.kind == 1 then
   fA 2
  else
   if v1.kind == 2 then
    fA 3
   else
    if v1.kind == 3 then
     fA 4
    else
     au (fA 7) fun x5=>
     tQ kg v1 BIG 0 x5
def mG :Nat→ah→Option aj
 | 0,_=>none
 | k + 1,qH=>Ah (mG k) qH
def IB (qH:ah):Option aj:=mG BIG qH
def Fh (v1:ah):Option aj:=
 au (kH v1) fun x1=>
 if x1 != 0 then
  fA 0
 else
  IB v1
def ql (b_:List aG) (name1:Str):Nat→Int→Option (aj × Int)
 | 0,_=>none
 | bP + 1,x1=>
  if decide (x1 < (b_.length:Int)) then
   au (idx b_ x1) fun e1=>
   if e1.name == name1 then
    some (e1.o7,0)
   else
    ql b_ name1 bP (bW (x1 + 1))
  else
   some ((aj.mk 0 []),10)
def uF (b_:List aG) (name1:Str):Option (aj × Int):=
 ql b_ name1 BIG 0
def zn (t1:aj):Option (aj × Int):=
 au (eP t1) fun x1=>
 if x1 then
  some (t1,0)
 else
  if t1.kind == 6 then
   au (idx t1.elem 0) fun e1=>
   some (e1,0)
  else
   some ((aj.mk 0 []),9)
def Bp (t1:aj) (i1:aj):Option (aj × Int):=
 au (eB 3) fun x1=>
 au (ig i1 x1) fun MO=>
 au (eB 4) fun x2=>
 au (ig i1 x2) fun text1=>
 if (t1.kind == 5) && MO then
  au (idx t1.elem 0) fun e1=>
  some (e1,0)
 else
  if (t1.kind == 6) && text1 then
   au (idx t1.elem 0) fun e2=>
   some (e2,0)
  else
   au (eP t1) fun x3=>
   if x3 && (MO || text1) then
    some (t1,0)
   else
    some ((aj.mk 0 []),9)
def Bo (op1:Str) (t1:aj):Option (aj × Int):=
 au (eB 3) fun x1=>
 if op1 == ([33]:Str) then
  au (eB 2) fun x2=>
  au (ig t1 x2) fun x3=>
  if !x3 then
   some ((aj.mk 0 []),9)
  else
   some (x2,0)
 else
  au (ig t1 x1) fun x4=>
  if !x4 then
   some ((aj.mk 0 []),9)
  else
   some (x1,0)
def iT (dJ:Int) (c1:aj) (c2:aj):Option Bool:=
 au (eB dJ) fun x1=>
 au (ig c1 x1) fun x2=>
 if x2 then
  au (eB dJ) fun x3=>
  ig c2 x3
 else
  some false
def gP (a1:aj) (b1:aj) (dJ:Int):Option Bool:=
 au (eP a1) fun x1=>
 au (
   if x1 || (a1.kind == dJ) then
    au (eP b1) fun x2=>
    some (x2 || (b1.kind == dJ))
   else
    some false) fun b2=>
 some (b2 && ((a1.kind == dJ) || (b1.kind == dJ)))
def sI (t1:aj):Option aj:=
 au (eP t1) fun x1=>
 if x1 then
  some t1
 else
  idx t1.elem 0
def D_ (a1:aj) (b1:aj):Option Bool:=
 au (jO a1) fun x1=>
 if x1 == 0 then
  au (jO b1) fun x2=>
  some (x2 == 0)
 else
  some false
def lI (a1:aj) (b1:aj):Option aj:=
 au (D_ a1 b1) fun x1=>
 if !x1 then
  fA 0
 else
  AP a1 b1
def Gb (a1:aj) (b1:aj):Option (aj × Int):=
 au (eP a1) fun x1=>
 au (
   if x1 then
    eP b1
   else
    some false) fun b2=>
 if b2 then
  if (a1.kind == 0) || (b1.kind == 0) then
   au (eB 0) fun x3=>
   some (x3,0)
  else
   au (eB 7) fun x4=>
   some (x4,0)
 else
  au (gP a1 b1 3) fun x5=>
  if x5 then
   au (eB 3) fun x6=>
   some (x6,0)
  else
   au (gP a1 b1 4) fun x7=>
   if x7 then
    au (eB 4) fun x8=>
    some (x8,0)
   else
    au (gP a1 b1 5) fun x9=>
    if x9 then
     au (sI a1) fun BH=>
     au (sI b1) fun Hl=>
     au (lI BH Hl) fun Kn=>
     au (kZ 5 Kn) fun KZ=>
     some (KZ,0)
    else
     some ((aj.mk 0 []),9)
def Cu (op1:Str) (a1:aj) (b1:aj):Option (aj × Int):=
 if op1 == ([38,38]:Str) then
  au (iT 2 a1 b1) fun x1=>
  if x1 then
   au (eB 2) fun x2=>
   some (x2,0)
  else
   some ((aj.mk 0 []),9)
 else
  if op1 == ([124,124]:Str) then
   au (iT 2 a1 b1) fun x3=>
   if x3 then
    au (eB 2) fun x4=>
    some (x4,0)
   else
    some ((aj.mk 0 []),9)
  else
   if op1 == ([61,61]:Str) then
    au (eB 2) fun x5=>
    some (x5,0)
   else
    if op1 == ([33,61]:Str) then
     au (eB 2) fun x6=>
     some (x6,0)
    else
     if op1 == ([60]:Str) then
      au (eP a1) fun x7=>
      au (
        if x7 then
         eP b1
        else
         some false) fun b2=>
      au (
        if b2 then
         some true
        else
         gP a1 b1 3) fun b3=>
      au (
        if b3 then
         some true
        else
         gP a1 b1 4) fun b4=>
      if b4 then
       au (eB 2) fun Hl=>
       some (Hl,0)
      else
       some ((aj.mk 0 []),9)
     else
      if op1 == ([60,61]:Str) then
       au (eP a1) fun Kn=>
       au (
         if Kn then
          eP b1
         else
          some false) fun b5=>
       au (
         if b5 then
          some true
         else
          gP a1 b1 3) fun b6=>
       au (
         if b6 then
          some true
         else
          gP a1 b1 4) fun b7=>
       if b7 then
        au (eB 2) fun Iu=>
        some (Iu,0)
       else
        some ((aj.mk 0 []),9)
      else
       if op1 == ([62]:Str) then
        au (eP a1) fun SN=>
        au (
          if SN then
           eP b1
          else
           some false) fun b8=>
        au (
          if b8 then
           some true
          else
           gP a1 b1 3) fun b9=>
        au (
          if b9 then
           some true
          else
           gP a1 b1 4) fun b10=>
        if b10 then
         au (eB 2) fun x21=>
         some (x21,0)
        else
         some ((aj.mk 0 []),9)
       else
        if op1 == ([62,61]:Str) then
         au (eP a1) fun x22=>
         au (
           if x22 then
            eP b1
           else
            some false) fun b11=>
         au (
           if b11 then
            some true
           else
            gP a1 b1 3) fun b12=>
         au (
           if b12 then
            some true
           else
            gP a1 b1 4) fun b13=>
         if b13 then
          au (eB 2) fun x26=>
          some (x26,0)
         else
          some ((aj.mk 0 []),9)
        else
         if op1 == ([45]:Str) then
          au (iT 3 a1 b1) fun x27=>
          if x27 then
           au (eB 3) fun x28=>
           some (x28,0)
          else
           some ((aj.mk 0 []),9)
         else
          if op1 == ([42]:Str) then
           au (iT 3 a1 b1) fun x29=>
           if x29 then
            au (eB 3) fun x30=>
            some (x30,0)
           else
            some ((aj.mk 0 []),9)
          else
           if op1 == ([47]:Str) then
            au (iT 3 a1 b1) fun x31=>
            if x31 then
             au (eB 3) fun x32=>
             some (x32,0)
            else
             some ((aj.mk 0 []),9)
           else
            if op1 == ([37]:Str) then
             au (iT 3 a1 b1) fun x33=>
             if x33 then
              au (eB 3) fun x34=>
              some (x34,0)
             else
              some ((aj.mk 0 []),9)
            else
             if op1 == ([43]:Str) then
              Gb a1 b1
             else
              some ((aj.mk 0 []),9)
def qj (dJ:Int) (xC:List aj):Nat→Int→aj→Option (aj × Int)
 | 0,_,_=>none
 | bP + 1,x2,iL=>
  if decide (x2 < (xC.length:Int)) then
   au (idx xC x2) fun e1=>
   au (lI iL e1) fun x3=>
   qj dJ xC bP (bW (x2 + 1)) x3
  else
   au (kZ dJ iL) fun x4=>
   au (jO x4) fun x5=>
   if x5 != 0 then
    some ((aj.mk 0 []),13)
   else
    some (x4,0)
def qZ (dJ:Int) (xC:List aj):Option (aj × Int):=
 au (eB 7) fun x1=>
 qj dJ xC BIG 0 x1
def Ct (fK:ak→List aG→Option (aj × Int)) (iA:ak→List aG→Option (aj × Int)) (iH:List ak→List aG→Option (List aj × Int)) (e1:ak) (b_:List aG):Option (aj × Int):=
 if e1.kind == 5 then
  iA e1 b_
 else
  fP (iH e1.args b_) fun xC f1=>
  if f1 != 0 then
   some ((aj.mk 0 []),f1)
  else
   if e1.kind == 1 then
    au (Fh e1.value) fun x3=>
    some (x3,0)
   else
    if e1.kind == 2 then
     uF b_ e1.name
    else
     if e1.kind == 3 then
      au (idx xC 0) fun e2=>
      zn e2
     else
      if e1.kind == 4 then
       au (idx xC 0) fun e3=>
       au (idx xC 1) fun e4=>
       Bp e3 e4
      else
       if e1.kind == 6 then
        au (idx xC 0) fun e5=>
        Bo e1.name e5
       else
        if e1.kind == 7 then
         au (idx xC 0) fun e6=>
         au (idx xC 1) fun e7=>
         Cu e1.name e6 e7
        else
         if e1.kind == 8 then
          au (idx xC 0) fun e8=>
          au (eB 2) fun SQ=>
          au (ig e8 SQ) fun OI=>
          if !OI then
           some ((aj.mk 0 []),9)
          else
           au (idx xC 1) fun e9=>
           au (idx xC 2) fun e10=>
           au (lI e9 e10) fun Iu=>
           some (Iu,0)
         else
          if e1.kind == 9 then
           qZ 5 xC
          else
           qZ 6 xC
def mP (e1:ak) (iY:List (List aj)) (x1:aj) (xC:List aj):Nat→Int→Option (aj × Int)
 | 0,_=>none
 | bP + 1,x2=>
  if decide (x2 < (iY.length:Int)) then
   au (idx iY x2) fun Az=>
   au (qh xC Az) fun x3=>
   if !x3 then
    mP e1 iY x1 xC bP (bW (x2 + 1))
   else
    if !(e1.name == ([100,101,102,97,117,108,116]:Str)) then
     some (x1,0)
    else
     au (idx xC 0) fun e3=>
     if e3.kind == 1 then
      au (idx xC 1) fun e4=>
      some (e4,0)
     else
      au (idx xC 0) fun e5=>
      some (e5,0)
  else
   some ((aj.mk 0 []),9)
def zo (fK:ak→List aG→Option (aj × Int)) (iA:ak→List aG→Option (aj × Int)) (iH:List ak→List aG→Option (List aj × Int)) (e1:ak) (b_:List aG):Option (aj × Int):=
 fP (iX e1.name) fun iY x1=>
 if (iY.length:Int) == 0 then
  some ((aj.mk 0 []),10)
 else
  au (idx iY 0) fun e2=>
  if (e1.args.length:Int) != (e2.length:Int) then
   some ((aj.mk 0 []),1)
  else
   fP (iH e1.args b_) fun xC f1=>
   if f1 != 0 then
    some ((aj.mk 0 []),f1)
   else
    mP e1 iY x1 xC BIG 0
def nZ (fK:ak→List aG→Option (aj × Int)) (l1:List ak) (b_:List aG):Nat→List aj→Int→Option (List aj × Int)
 | 0,_,_=>none
 | bP + 1,bM,x1=>
  if decide (x1 < (l1.length:Int)) then
   au (idx l1 x1) fun e1=>
   fP (fK e1 b_) fun x2 f1=>
   if f1 != 0 then
    some ([],f1)
   else
    au (app bM [x2]) fun zW=>
    nZ fK l1 b_ bP zW (bW (x1 + 1))
  else
   some (bM,0)
def JE (fK:ak→List aG→Option (aj × Int)) (iA:ak→List aG→Option (aj × Int)) (iH:List ak→List aG→Option (List aj × Int)) (l1:List ak) (b_:List aG):Option (List aj × Int):=
 nZ fK l1 b_ BIG [] 0
mutual
def fU :Nat→ak→List aG→Option (aj × Int)
 | 0,_,_=>none
 | k + 1,iO,gB=>Ct (fU k) (lq k) (jX k) iO gB
def lq :Nat→ak→List aG→Option (aj × Int)
 | 0,_,_=>none
 | k + 1,iO,gB=>zo (fU k) (lq k) (jX k) iO gB
def jX :Nat→List ak→List aG→Option (List aj × Int)
 | 0,_,_=>none
 | k + 1,Pn,gB=>JE (fU k) (lq k) (jX k) Pn gB
end
def LD (iO:ak) (gB:List aG):Option (aj × Int):=fU BIG iO gB
def aaH (iO:ak) (gB:List aG):Option (aj × Int):=lq BIG iO gB
def adp (Pn:List ak) (gB:List aG):Option (List aj × Int):=jX BIG Pn gB
def uG (e1:ak) (b_:List aG):Option (aj × Int):=
 au (Gc b_) fun f1=>
 if f1 != 0 then
  some ((aj.mk 0 []),f1)
 else
  au (jh e1) fun f2=>
  if f2 != 0 then
   some ((aj.mk 0 []),f2)
  else
   fP (LD e1 b_) fun x1 f3=>
   if f3 != 0 then
    some ((aj.mk 0 []),f3)
   else
    au (eB 7) fun x2=>
    au (lI x1 x2) fun x3=>
    some (x3,0)
def oV (iK:ak) (bU:List aG) (x1:List aB):Nat→List aG→Int→Option Int
 | 0,_,_=>none
 | bP + 1,decls1,x2=>
  if decide (x2 < (x1.length:Int)) then
   au (idx x1 x2) fun e1=>
   au (app decls1 [(aG.mk e1.name (aj.mk 2 []))]) fun decls2=>
   oV iK bU x1 bP decls2 (bW (x2 + 1))
  else
   au (app decls1 bU) fun x3=>
   fP (uG iK x3) fun x4 e2=>
   if e2 != 0 then
    some e2
   else
    if x4.kind == 2 then
     some 0
    else
     if x4.kind == 0 then
      some 0
     else
      if x4.kind == 7 then
       some 0
      else
       some 9
def gK (iK:ak) (bU:List aG):Option Int:=
 au (sH [] []) fun x1=>
 oV iK bU x1 BIG [] 0
def IU :Option ak:=
 some (ak.mk 2 ([115,117,99,99,101,115,115]:Str) (ah.mk 0 false 0 ([]:Str) [] []) [] [])
def mX (Qe:Bool):Option Int:=
 if Qe then
  some (-1)
 else
  some 1
def u_ (a1:List Str) (b1:List Str):Nat→Int→Option Int
 | 0,_=>none
 | bP + 1,i1=>
  if (decide (i1 < (a1.length:Int))) && (decide (i1 < (b1.length:Int))) then
   au (idx a1 i1) fun e1=>
   au (idx b1 i1) fun e2=>
   au (pX e1 e2) fun c1=>
   if c1 != 0 then
    mX (decide (c1 < 0))
   else
    u_ a1 b1 bP (bW (i1 + 1))
  else
   if (a1.length:Int) == (b1.length:Int) then
    some 0
   else
    mX (decide ((a1.length:Int) < (b1.length:Int)))
def FH (a1:List Str) (b1:List Str):Option Int:=
 u_ a1 b1 BIG 0
def Ao (gN:ah→ah→Option Int) (kX:List ah→List ah→Option Int) (a1:ah) (b1:ah):Option Int:=
 if a1.kind != b1.kind then
  mX (decide (a1.kind < b1.kind))
 else
  if a1.kind == 1 then
   if !(a1.dM == b1.dM) then
    mX b1.dM
   else
    some 0
  else
   if a1.kind == 2 then
    if a1.dO != b1.dO then
     mX (decide (a1.dO < b1.dO))
    else
     some 0
   else
    if a1.kind == 3 then
     if !(a1.bO == b1.bO) then
      mX (Go.Op.bytesLess a1.bO b1.bO)
     else
      some 0
    else
     if a1.kind == 4 then
      kX a1.aI b1.aI
     else
      if a1.kind == 5 then
       au (FH a1.keys b1.keys) fun c1=>
       if c1 != 0 then
        some c1
       else
        kX a1.aI b1.aI
      else
       some 0
def vg (gN:ah→ah→Option Int) (a1:List ah) (b1:List ah):Nat→Int→Option Int
 | 0,_=>none
 | bP + 1,i1=>
  if (decide (i1 < (a1.length:Int))) && (decide (i1 < (b1.length:Int))) then
   au (idx a1 i1) fun e1=>
   au (idx b1 i1) fun e2=>
   au (gN e1 e2) fun c1=>
   if c1 != 0 then
    some c1
   else
    vg gN a1 b1 bP (bW (i1 + 1))
  else
   if (a1.length:Int) == (b1.length:Int) then
    some 0
   else
    mX (decide ((a1.length:Int) < (b1.length:Int)))
def El (gN:ah→ah→Option Int) (kX:List ah→List ah→Option Int) (a1:List ah) (b1:List ah):Option Int:=
 vg gN a1 b1 BIG 0
mutual
def jH :Nat→ah→ah→Option Int
 | 0,_,_=>none
 | k + 1,pI,pG=>Ao (jH k) (rD k) pI pG
def rD :Nat→List ah→List ah→Option Int
 | 0,_,_=>none
 | k + 1,pI,pG=>El (jH k) (rD k) pI pG
end
def Eo (pI:ah) (pG:ah):Option Int:=jH BIG pI pG
def acQ (pI:List ah) (pG:List ah):Option Int:=rD BIG pI pG
def xI (a1:ah) (b1:ah):Option Bool:=
 au (Eo a1 b1) fun x1=>
 some (x1 == 0)
def Cc (jk:ak→ak→Option Bool) (a1:ak) (b1:ak):Nat→Int→Option Bool
 | 0,_=>none
 | Ke + 1,i2=>
  if decide (i2 < (a1.args.length:Int)) then
   au (idx a1.args i2) fun e3=>
   au (idx b1.args i2) fun e4=>
   au (jk e3 e4) fun x2=>
   if !x2 then
    some false
   else
    Cc jk a1 b1 Ke (bW (i2 + 1))
  else
   some true
def Ce (jk:ak→ak→Option Bool) (a1:ak) (b1:ak):Nat→Int→Option Bool
 | 0,_=>none
 | bP + 1,i1=>
  if decide (i1 < (a1.keys.length:Int)) then
   au (idx a1.keys i1) fun e1=>
   au (idx b1.keys i1) fun e2=>
   if !(e1 == e2) then
    some false
   else
    Ce jk a1 b1 bP (bW (i1 + 1))
  else
   Cc jk a1 b1 BIG 0
def IW (jk:ak→ak→Option Bool) (a1:ak) (b1:ak):Option Bool:=
 au (
   if (((a1.kind != b1.kind) || (!(a1.name == b1.name))) || ((a1.keys.length:Int) != (b1.keys.length:Int))) || ((a1.args.length:Int) != (b1.args.length:Int)) then
    some true
   else
    au (xI a1.value b1.value) fun x1=>
    some (!x1)) fun b2=>
 if b2 then
  some false
 else
  Ce jk a1 b1 BIG 0
def AZ :Nat→ak→ak→Option Bool
 | 0,_,_=>none
 | k + 1,pI,pG=>IW (AZ k) pI pG
def UJ (pI:ak) (pG:ak):Option Bool:=AZ BIG pI pG
def Fu (e1:ak):Option Bool:=
 au IU fun x1=>
 UJ e1 x1
def vD :Option Bool:=
 fP (oN ([97,108,119,97,121,115,32,124,124,32,110,32,62,32,49]:Str) ([1,2]:List Int)) fun a1 e1=>
 fP (oN ([115,117,99,99,101,115,115]:Str) ([1,2]:List Int)) fun b1 f1=>
 fP (oN ([102,97,105,108,117,114,101,32,38,38,32,33,99,97,110,99,101,108,108,101,100,32,38,38,32,33,115,107,105,112,112,101,100]:Str) ([1,2]:List Int)) fun c1 g1=>
 fP (oN ([49]:Str) []) fun x1 hx1=>
 H_ (vw ([115,117,99,99,101,115,115,32,43,32,49]:Str)) fun x2 x3 x4=>
 au nC fun x5=>
 au (gK x5 [(aG.mk ([97,108,119,97,121,115]:Str) (aj.mk 2 []))]) fun oZ=>
 au (
   if (((((a1 && (e1 == 0)) && (!b1)) && (f1 == 0)) && c1) && (g1 == 0)) && (hx1 == 9) then
    au (gK x2 []) fun x6=>
    some (x6 == 9)
   else
    some false) fun b2=>
 au (
   if b2 && (oZ == 7) then
    au nC fun x7=>
    Fu x7
   else
    some false) fun b3=>
 if b3 then
  au nC fun x9=>
  au (gK x9 []) fun BH=>
  some (BH == 0)
 else
  some false
def iV (dJ:Int):Option aj:=
 some (aj.mk dJ [])
def zT (dJ:Int):Option Bool:=
 some ((dJ == 5) || (dJ == 6))
def jg (dJ:Int) (t1:aj):Option aj:=
 some (aj.mk dJ [t1])
def wV (xQ:aj→aj→Option aj) (a1:aj) (b1:aj):Option aj:=
 if a1.kind == 7 then
  some b1
 else
  if b1.kind == 7 then
   some a1
  else
   if a1.kind != b1.kind then
    iV 0
   else
    au (zT a1.kind) fun x2=>
    if x2 then
     au (idx a1.elem 0) fun e1=>
     au (idx b1.elem 0) fun e2=>
     au (xQ e1 e2) fun x3=>
     jg a1.kind x3
    else
     some a1
def qB :Nat→aj→aj→Option aj
 | 0,_,_=>none
 | k + 1,pI,pG=>wV (qB k) pI pG
def IY (pI:aj) (pG:aj):Option aj:=qB BIG pI pG
def FD (sG:ah→Option aj) (v1:ah):Nat→Int→aj→Option aj
 | 0,_,_=>none
 | bP + 1,i1,t1=>
  if decide (i1 < (v1.aI.length:Int)) then
   au (idx v1.aI i1) fun e1=>
   au (sG e1) fun x6=>
   au (IY t1 x6) fun x7=>
   FD sG v1 bP (bW (i1 + 1)) x7
  else
   if v1.kind == 5 then
    jg 6 t1
   else
    jg 5 t1
def MF (sG:ah→Option aj) (v1:ah):Option aj:=
 if v1.kind == 0 then
  iV 1
 else
  if v1.kind == 1 then
   iV 2
  else
   if v1.kind == 2 then
    iV 3
   else
    if v1.kind == 3 then
     iV 4
    else
     au (iV 7) fun x5=>
     FD sG v1 BIG 0 x5
def yG :Nat→ah→Option aj
 | 0,_=>none
 | k + 1,qH=>MF (yG k) qH
def Z4 (qH:ah):Option aj:=yG BIG qH
def IZ (v1:ah):Option aj:=
 au (xH v1) fun x1=>
 if x1 != 0 then
  iV 0
 else
  Z4 v1
def CK (bU:List aG):Option (List aG):=
 au (iV 2) fun x1=>
 app [(aG.mk ([97,108,119,97,121,115]:Str) x1),(aG.mk ([99,97,110,99,101,108,108,101,100]:Str) x1),(aG.mk ([102,97,105,108,117,114,101]:Str) x1),(aG.mk ([115,107,105,112,112,101,100]:Str) x1),(aG.mk ([115,117,99,99,101,115,115]:Str) x1)] bU
def Ej (vH:aj→Int→Option Int) (t1:aj) (bE:Int):Option Int:=
 if decide (16 < bE) then
  some 13
 else
  if (decide (t1.kind < 0)) || (decide (7 < t1.kind)) then
   some 1
  else
   au (zT t1.kind) fun x1=>
   if !x1 then
    if decide (0 < (t1.elem.length:Int)) then
     some 1
    else
     some 0
   else
    if (t1.elem.length:Int) != 1 then
     some 1
    else
     au (idx t1.elem 0) fun e1=>
     vH e1 (bW (bE + 1))
def uf :Nat→aj→Int→Option Int
 | 0,_,_=>none
 | k + 1,wJ,dZ=>Ej (uf k) wJ dZ
def UK (wJ:aj) (dZ:Int):Option Int:=uf BIG wJ dZ
def u7 (t1:aj):Option Int:=
 UK t1 1
def zR (b_:List aG) (i1:Int) (KJ:Int→Option Int):Nat→Int→Option Int
 | 0,_=>none
 | Ke + 1,oZ=>
  if decide (oZ < i1) then
   au (idx b_ oZ) fun e4=>
   au (idx b_ i1) fun e5=>
   if e4.name == e5.name then
    some 7
   else
    zR b_ i1 KJ Ke (bW (oZ + 1))
  else
   KJ (bW (i1 + 1))
def t_ (b_:List aG):Nat→Int→Option Int
 | 0,_=>none
 | bP + 1,i1=>
  if decide (i1 < (b_.length:Int)) then
   au (idx b_ i1) fun e1=>
   au (u6 e1.name) fun x1=>
   if !x1 then
    some 1
   else
    au (idx b_ i1) fun e2=>
    au (u7 e2.o7) fun e3=>
    if e3 != 0 then
     some e3
    else
     zR b_ i1 (t_ b_ bP) BIG 0
  else
   some 0
def ME (b_:List aG):Option Int:=
 if decide (1024 < (b_.length:Int)) then
  some 3
 else
  t_ b_ BIG 0
def Fy (e1:ak):Option Bool:=
 if e1.kind == 1 then
  some ((e1.args.length:Int) == 0)
 else
  if e1.kind == 2 then
   some ((e1.args.length:Int) == 0)
  else
   if e1.kind == 3 then
    some ((e1.args.length:Int) == 1)
   else
    if e1.kind == 6 then
     some ((e1.args.length:Int) == 1)
    else
     if e1.kind == 4 then
      some ((e1.args.length:Int) == 2)
     else
      if e1.kind == 7 then
       some ((e1.args.length:Int) == 2)
      else
       if e1.kind == 8 then
        some ((e1.args.length:Int) == 3)
       else
        some (((e1.kind == 5) || (e1.kind == 9)) || (e1.kind == 10))
def Cb (op1:Str):Option Int:=
 if op1 == ([124,124]:Str) then
  some 2
 else
  if op1 == ([38,38]:Str) then
   some 3
  else
   if op1 == ([61,61]:Str) then
    some 4
   else
    if op1 == ([33,61]:Str) then
     some 4
    else
     if op1 == ([60]:Str) then
      some 4
     else
      if op1 == ([60,61]:Str) then
       some 4
      else
       if op1 == ([62]:Str) then
        some 4
       else
        if op1 == ([62,61]:Str) then
         some 4
        else
         if op1 == ([43]:Str) then
          some 5
         else
          if op1 == ([45]:Str) then
           some 5
          else
           if op1 == ([42]:Str) then
            some 6
           else
            if op1 == ([47]:Str) then
             some 6
            else
             if op1 == ([37]:Str) then
              some 6
             else
              some 0
def Fx (e1:ak):Option Bool:=
 if e1.kind == 2 then
  u6 e1.name
 else
  if e1.kind == 3 then
   u6 e1.name
  else
   if e1.kind == 5 then
    u6 e1.name
   else
    if e1.kind == 6 then
     some ((e1.name == ([33]:Str)) || (e1.name == ([45]:Str)))
    else
     if e1.kind == 7 then
      au (Cb e1.name) fun x4=>
      some (decide (0 < x4))
     else
      some (e1.name == ([]:Str))
def A9 (jW:ah→ah→Option Bool) (a1:ah) (b1:ah):Nat→Int→Option Bool
 | 0,_=>none
 | Ke + 1,i2=>
  if decide (i2 < (a1.aI.length:Int)) then
   au (idx a1.aI i2) fun e3=>
   au (idx b1.aI i2) fun e4=>
   au (jW e3 e4) fun x1=>
   if !x1 then
    some false
   else
    A9 jW a1 b1 Ke (bW (i2 + 1))
  else
   some true
def A_ (jW:ah→ah→Option Bool) (a1:ah) (b1:ah):Nat→Int→Option Bool
 | 0,_=>none
 | bP + 1,i1=>
  if decide (i1 < (a1.keys.length:Int)) then
   au (idx a1.keys i1) fun e1=>
   au (idx b1.keys i1) fun e2=>
   if !(e1 == e2) then
    some false
   else
    A_ jW a1 b1 bP (bW (i1 + 1))
  else
   A9 jW a1 b1 BIG 0
def Gy (jW:ah→ah→Option Bool) (a1:ah) (b1:ah):Option Bool:=
 if (((((a1.kind != b1.kind) || (!(a1.dM == b1.dM))) || (a1.dO != b1.dO)) || (!(a1.bO == b1.bO))) || ((a1.aI.length:Int) != (b1.aI.length:Int))) || ((a1.keys.length:Int) != (b1.keys.length:Int)) then
  some false
 else
  A_ jW a1 b1 BIG 0
def zU :Nat→ah→ah→Option Bool
 | 0,_,_=>none
 | k + 1,pI,pG=>Gy (zU k) pI pG
def MI (pI:ah) (pG:ah):Option Bool:=zU BIG pI pG
def sF (e1:ak):Nat→Int→Option Bool
 | 0,_=>none
 | bP + 1,i1=>
  if decide (i1 < (e1.keys.length:Int)) then
   au (idx e1.keys i1) fun e2=>
   au (
     if decide ((e2.length:Int) < 1) then
      some true
     else
      au (idx e1.keys i1) fun e3=>
      some (decide (64 < (e3.length:Int)))) fun b4=>
   if b4 then
    some false
   else
    sF e1 bP (bW (i1 + 1))
  else
   some ((e1.keys.length:Int) == (e1.args.length:Int))
def Da (e1:ak):Option Bool:=
 au (Fy e1) fun x1=>
 au (
   if !x1 then
    some true
   else
    au (Fx e1) fun x2=>
    some (!x2)) fun b1=>
 au (
   if b1 then
    some true
   else
    if e1.kind != 1 then
     au (MI e1.value (ah.mk 0 false 0 ([]:Str) [] [])) fun x3=>
     some (!x3)
    else
     some false) fun b2=>
 if b2 then
  some false
 else
  if e1.kind != 10 then
   some ((e1.keys.length:Int) == 0)
  else
   sF e1 BIG 0
def uZ (zD:List Str) (i1:Int) (Ht:Int→Option Bool):Nat→Int→Option Bool
 | 0,_=>none
 | Ke + 1,oZ=>
  if decide (oZ < i1) then
   au (idx zD i1) fun e1=>
   au (idx zD oZ) fun e2=>
   if e1 == e2 then
    some true
   else
    uZ zD i1 Ht Ke (bW (oZ + 1))
  else
   Ht (bW (i1 + 1))
def pR (zD:List Str):Nat→Int→Option Bool
 | 0,_=>none
 | bP + 1,i1=>
  if decide (i1 < (zD.length:Int)) then
   uZ zD i1 (pR zD bP) BIG 0
  else
   some false
def Fw (zD:List Str):Option Bool:=
 pR zD BIG 0
def yE (mJ:ak→Int→Option Int) (e1:ak) (bE:Int):Nat→Int→Option Int
 | 0,_=>none
 | bP + 1,i1=>
  if decide (i1 < (e1.args.length:Int)) then
   au (idx e1.args i1) fun e2=>
   au (mJ e2 (bW (bE + 1))) fun f2=>
   if f2 != 0 then
    some f2
   else
    yE mJ e1 bE bP (bW (i1 + 1))
  else
   some 0
def Eh (mJ:ak→Int→Option Int) (e1:ak) (bE:Int):Option Int:=
 if decide (16 < bE) then
  some 13
 else
  au (Da e1) fun x1=>
  if !x1 then
   some 1
  else
   au (xH e1.value) fun f1=>
   if (e1.kind == 1) && (f1 != 0) then
    some f1
   else
    if decide (1024 < (e1.args.length:Int)) then
     some 3
    else
     au (Fw e1.keys) fun x2=>
     if x2 then
      some 7
     else
      yE mJ e1 bE BIG 0
def pU :Nat→ak→Int→Option Int
 | 0,_,_=>none
 | k + 1,iO,dZ=>Eh (pU k) iO dZ
def NQ (iO:ak) (dZ:Int):Option Int:=pU BIG iO dZ
def Fz (e1:ak):Option Int:=
 au (FC e1) fun x1=>
 if decide (4096 < x1) then
  some 15
 else
  NQ e1 1
def xF (e1:ak) (b_:List aG):Nat→Int→Option (aj × Int)
 | 0,_=>none
 | bP + 1,i1=>
  if decide (i1 < (b_.length:Int)) then
   au (idx b_ i1) fun e2=>
   if e2.name == e1.name then
    au (idx b_ i1) fun e3=>
    some (e3.o7,0)
   else
    xF e1 b_ bP (bW (i1 + 1))
  else
   some ((aj.mk 0 []),10)
def yD (e1:ak) (b_:List aG):Option (aj × Int):=
 if e1.kind == 1 then
  au (IZ e1.value) fun x1=>
  some (x1,0)
 else
  xF e1 b_ BIG 0
def qN (name1:Str):Option Int:=
 if name1 == ([108,101,110]:Str) then
  some 1
 else
  if name1 == ([108,111,119,101,114]:Str) then
   some 1
  else
   if name1 == ([117,112,112,101,114]:Str) then
    some 1
   else
    if name1 == ([115,116,114,105,110,103]:Str) then
     some 1
    else
     if name1 == ([105,110,116]:Str) then
      some 1
     else
      if name1 == ([107,101,121,115]:Str) then
       some 1
      else
       if name1 == ([99,111,110,116,97,105,110,115]:Str) then
        some 2
       else
        if name1 == ([106,111,105,110]:Str) then
         some 2
        else
         if name1 == ([115,112,108,105,116]:Str) then
          some 2
         else
          if name1 == ([115,116,97,114,116,115,119,105,116,104]:Str) then
           some 2
          else
           if name1 == ([101,110,100,115,119,105,116,104]:Str) then
            some 2
           else
            if name1 == ([100,101,102,97,117,108,116]:Str) then
             some 2
            else
             some (-1)
def fO (t1:aj):Option Bool:=
 some ((t1.kind == 0) || (t1.kind == 7))
def eU (dJ:Int):Option aj:=
 iV dJ
def l8 (nu:aj→aj→Option Bool) (t1:aj) (u1:aj):Option Bool:=
 au (fO t1) fun x1=>
 if x1 || (u1.kind == 0) then
  some true
 else
  if t1.kind != u1.kind then
   some false
  else
   if (t1.elem.length:Int) == 0 then
    some true
   else
    au (idx t1.elem 0) fun e1=>
    au (idx u1.elem 0) fun e2=>
    nu e1 e2
def iU :Nat→aj→aj→Option Bool
 | 0,_,_=>none
 | k + 1,wJ,Pm=>l8 (iU k) wJ Pm
def dW (wJ:aj) (Pm:aj):Option Bool:=iU BIG wJ Pm
def fF (t1:aj) (dJ:Int):Option Bool:=
 au (eU dJ) fun x1=>
 dW t1 x1
def Fv (a1:aj) (b1:aj):Option (aj × Bool):=
 if a1.kind == 5 then
  au (idx a1.elem 0) fun e1=>
  au (fF b1 3) fun x1=>
  some (e1,x1)
 else
  if a1.kind == 6 then
   au (idx a1.elem 0) fun e2=>
   au (fF b1 4) fun x2=>
   some (e2,x2)
  else
   au (fO a1) fun x3=>
   au (
     if x3 then
      au (fF b1 3) fun x4=>
      if x4 then
       some true
      else
       fF b1 4
     else
      some false) fun b2=>
   some (a1,b2)
def zP (dJ:Int):Option aj:=
 au (eU 0) fun x1=>
 jg dJ x1
def fq (name1:Str) (l1:List aj):Option (aj × Bool):=
 au (eU 4) fun x1=>
 if name1 == ([108,101,110]:Str) then
  au (eU 3) fun x2=>
  au (idx l1 0) fun e1=>
  au (fF e1 4) fun x3=>
  au (
    if x3 then
     some true
    else
     au (idx l1 0) fun e2=>
     au (zP 5) fun x4=>
     dW e2 x4) fun b1=>
  au (
    if b1 then
     some true
    else
     au (idx l1 0) fun e3=>
     au (zP 6) fun x6=>
     dW e3 x6) fun b2=>
  some (x2,b2)
 else
  if name1 == ([99,111,110,116,97,105,110,115]:Str) then
   au (eU 2) fun x8=>
   au (idx l1 0) fun e4=>
   au (zP 5) fun x9=>
   au (dW e4 x9) fun BH=>
   au (
     if BH then
      some true
     else
      au (idx l1 1) fun e5=>
      au (fF e5 4) fun Hl=>
      if Hl then
       au (idx l1 0) fun e6=>
       au (fF e6 4) fun Kn=>
       if Kn then
        some true
       else
        au (idx l1 0) fun e7=>
        au (zP 6) fun KZ=>
        dW e7 KZ
      else
       some false) fun b3=>
   some (x8,b3)
  else
   if name1 == ([106,111,105,110]:Str) then
    au (idx l1 0) fun e8=>
    au (jg 5 x1) fun OI=>
    au (dW e8 OI) fun Iu=>
    au (
      if Iu then
       au (idx l1 1) fun e9=>
       fF e9 4
      else
       some false) fun b6=>
    some (x1,b6)
   else
    if name1 == ([115,112,108,105,116]:Str) then
     au (jg 5 x1) fun Zp=>
     au (idx l1 0) fun e10=>
     au (fF e10 4) fun Zx=>
     au (
       if Zx then
        au (idx l1 1) fun e11=>
        fF e11 4
       else
        some false) fun b7=>
     some (Zp,b7)
    else
     if name1 == ([108,111,119,101,114]:Str) then
      au (idx l1 0) fun e12=>
      au (fF e12 4) fun x21=>
      some (x1,x21)
     else
      if name1 == ([117,112,112,101,114]:Str) then
       au (idx l1 0) fun e13=>
       au (fF e13 4) fun x22=>
       some (x1,x22)
      else
       if name1 == ([115,116,97,114,116,115,119,105,116,104]:Str) then
        au (eU 2) fun x23=>
        au (idx l1 0) fun e14=>
        au (fF e14 4) fun x24=>
        au (
          if x24 then
           au (idx l1 1) fun e15=>
           fF e15 4
          else
           some false) fun b8=>
        some (x23,b8)
       else
        if name1 == ([101,110,100,115,119,105,116,104]:Str) then
         au (eU 2) fun x26=>
         au (idx l1 0) fun e16=>
         au (fF e16 4) fun x27=>
         au (
           if x27 then
            au (idx l1 1) fun e17=>
            fF e17 4
           else
            some false) fun b9=>
         some (x26,b9)
        else
         if name1 == ([115,116,114,105,110,103]:Str) then
          au (idx l1 0) fun e18=>
          au (
            if e18.kind != 5 then
             au (idx l1 0) fun e19=>
             some (e19.kind != 6)
            else
             some false) fun b10=>
          some (x1,b10)
         else
          if name1 == ([105,110,116]:Str) then
           au (eU 3) fun x29=>
           au (idx l1 0) fun e20=>
           au (fF e20 4) fun x30=>
           some (x29,x30)
          else
           if name1 == ([107,101,121,115]:Str) then
            au (jg 5 x1) fun x31=>
            au (idx l1 0) fun e21=>
            au (zP 6) fun x32=>
            au (dW e21 x32) fun x33=>
            some (x31,x33)
           else
            au (idx l1 0) fun e22=>
            if e22.kind == 1 then
             au (idx l1 1) fun e23=>
             some (e23,true)
            else
             au (idx l1 0) fun e24=>
             some (e24,true)
def oJ (a1:aj) (b1:aj):Option Int:=
 au (fO a1) fun x1=>
 if x1 then
  some b1.kind
 else
  au (fO b1) fun x2=>
  if x2 || (a1.kind == b1.kind) then
   some a1.kind
  else
   some (-1)
def xG (t1:aj):Option aj:=
 au (fO t1) fun x1=>
 if x1 then
  some t1
 else
  idx t1.elem 0
def MG (a1:aj) (b1:aj):Option Bool:=
 au (u7 a1) fun x1=>
 if x1 == 0 then
  au (u7 b1) fun x2=>
  some (x2 == 0)
 else
  some false
def yH (a1:aj) (b1:aj):Option aj:=
 au (MG a1 b1) fun x1=>
 if !x1 then
  iV 0
 else
  IY a1 b1
def Ef (a1:aj) (b1:aj):Option (aj × Bool):=
 au (fO a1) fun x1=>
 au (
   if x1 then
    fO b1
   else
    some false) fun b2=>
 if b2 then
  if a1.kind == 0 then
   some (a1,true)
  else
   some (b1,true)
 else
  au (oJ a1 b1) fun oZ=>
  if oZ == 5 then
   au (xG a1) fun x3=>
   au (xG b1) fun x4=>
   au (yH x3 x4) fun x5=>
   au (jg oZ x5) fun x6=>
   some (x6,true)
  else
   au (eU oZ) fun x7=>
   some (x7,((oZ == 3) || (oZ == 4)))
def kT (op1:Str) (a1:aj) (b1:aj):Option (aj × Bool):=
 if op1 == ([38,38]:Str) then
  au (eU 2) fun x1=>
  au (fF a1 2) fun x2=>
  au (
    if x2 then
     fF b1 2
    else
     some false) fun b2=>
  some (x1,b2)
 else
  if op1 == ([124,124]:Str) then
   au (eU 2) fun x4=>
   au (fF a1 2) fun x5=>
   au (
     if x5 then
      fF b1 2
     else
      some false) fun b3=>
   some (x4,b3)
  else
   if op1 == ([61,61]:Str) then
    au (eU 2) fun x7=>
    some (x7,true)
   else
    if op1 == ([33,61]:Str) then
     au (eU 2) fun x8=>
     some (x8,true)
    else
     if op1 == ([60]:Str) then
      au (oJ a1 b1) fun oZ=>
      au (eU 2) fun x9=>
      au (fO a1) fun BH=>
      au (
        if BH then
         fO b1
        else
         some false) fun b4=>
      some (x9,((b4 || (oZ == 3)) || (oZ == 4)))
     else
      if op1 == ([60,61]:Str) then
       au (oJ a1 b1) fun kx2=>
       au (eU 2) fun Kn=>
       au (fO a1) fun KZ=>
       au (
         if KZ then
          fO b1
         else
          some false) fun b5=>
       some (Kn,((b5 || (kx2 == 3)) || (kx2 == 4)))
      else
       if op1 == ([62]:Str) then
        au (oJ a1 b1) fun kx3=>
        au (eU 2) fun OI=>
        au (fO a1) fun Iu=>
        au (
          if Iu then
           fO b1
          else
           some false) fun b6=>
        some (OI,((b6 || (kx3 == 3)) || (kx3 == 4)))
       else
        if op1 == ([62,61]:Str) then
         au (oJ a1 b1) fun kx4=>
         au (eU 2) fun Zp=>
         au (fO a1) fun Zx=>
         au (
           if Zx then
            fO b1
           else
            some false) fun b7=>
         some (Zp,((b7 || (kx4 == 3)) || (kx4 == 4)))
        else
         if op1 == ([43]:Str) then
          Ef a1 b1
         else
          au (eU 3) fun x23=>
          au (fF a1 3) fun x24=>
          au (
            if x24 then
             fF b1 3
            else
             some false) fun b8=>
          some (x23,b8)
def AV (e1:ak) (l1:List aj):Nat→Int→aj→Option (aj × Bool)
 | 0,_,_=>none
 | bP + 1,i1,t1=>
  if decide (i1 < (l1.length:Int)) then
   au (idx l1 i1) fun e16=>
   au (yH t1 e16) fun OI=>
   AV e1 l1 bP (bW (i1 + 1)) OI
  else
   if e1.kind == 10 then
    au (jg 6 t1) fun Iu=>
    some (Iu,true)
   else
    au (jg 5 t1) fun SN=>
    some (SN,true)
def eX (e1:ak) (l1:List aj):Option (aj × Bool):=
 if e1.kind == 3 then
  au (idx l1 0) fun e2=>
  if e2.kind == 6 then
   au (idx l1 0) fun e3=>
   au (idx e3.elem 0) fun e4=>
   some (e4,true)
  else
   au (idx l1 0) fun e5=>
   au (idx l1 0) fun e6=>
   au (fO e6) fun x1=>
   some (e5,x1)
 else
  if e1.kind == 4 then
   au (idx l1 0) fun e7=>
   au (idx l1 1) fun e8=>
   Fv e7 e8
  else
   if e1.kind == 5 then
    fq e1.name l1
   else
    if e1.kind == 6 then
     if e1.name == ([33]:Str) then
      au (eU 2) fun x6=>
      au (idx l1 0) fun e9=>
      au (fF e9 2) fun x7=>
      some (x6,x7)
     else
      au (eU 3) fun x8=>
      au (idx l1 0) fun e10=>
      au (fF e10 3) fun x9=>
      some (x8,x9)
    else
     if e1.kind == 7 then
      au (idx l1 0) fun e11=>
      au (idx l1 1) fun e12=>
      kT e1.name e11 e12
     else
      if e1.kind == 8 then
       au (idx l1 1) fun e13=>
       au (idx l1 2) fun e14=>
       au (yH e13 e14) fun Kn=>
       au (idx l1 0) fun e15=>
       au (fF e15 2) fun KZ=>
       some (Kn,KZ)
      else
       au (eU 7) fun SQ=>
       AV e1 l1 BIG 0 SQ
def pQ (oo:ak→List aG→Option (aj × Int)) (e1:ak) (b_:List aG):Nat→List aj→Int→Option (aj × Int)
 | 0,_,_=>none
 | bP + 1,l1,i1=>
  if decide (i1 < (e1.args.length:Int)) then
   au (idx e1.args i1) fun e2=>
   fP (oo e2 b_) fun x5 f1=>
   if f1 != 0 then
    some ((aj.mk 0 []),f1)
   else
    au (app l1 [x5]) fun l2=>
    pQ oo e1 b_ bP l2 (bW (i1 + 1))
  else
   fP (eX e1 l1) fun x6 ok1=>
   if !ok1 then
    some ((aj.mk 0 []),9)
   else
    au (u7 x6) fun x7=>
    if x7 != 0 then
     some ((aj.mk 0 []),13)
    else
     some (x6,0)
def wU (oo:ak→List aG→Option (aj × Int)) (e1:ak) (b_:List aG):Option (aj × Int):=
 if (e1.kind == 1) || (e1.kind == 2) then
  yD e1 b_
 else
  au (
    if e1.kind == 5 then
     au (qN e1.name) fun x3=>
     some (decide (x3 < 0))
    else
     some false) fun b1=>
  if b1 then
   some ((aj.mk 0 []),10)
  else
   au (
     if e1.kind == 5 then
      au (qN e1.name) fun x4=>
      some (x4 != (e1.args.length:Int))
     else
      some false) fun b2=>
   if b2 then
    some ((aj.mk 0 []),1)
   else
    pQ oo e1 b_ BIG [] 0
def gZ :Nat→ak→List aG→Option (aj × Int)
 | 0,_,_=>none
 | k + 1,iO,gB=>wU (gZ k) iO gB
def mW (iO:ak) (gB:List aG):Option (aj × Int):=gZ BIG iO gB
def C_ (e1:ak) (b_:List aG):Option (aj × Int):=
 au (ME b_) fun f1=>
 if f1 != 0 then
  some ((aj.mk 0 []),f1)
 else
  au (Fz e1) fun f2=>
  if f2 != 0 then
   some ((aj.mk 0 []),f2)
  else
   mW e1 b_
def C9 (xP:aj→Option Bool) (t1:aj):Option Bool:=
 if t1.kind != 0 then
  if (t1.elem.length:Int) == 0 then
   some true
  else
   au (idx t1.elem 0) fun e1=>
   xP e1
 else
  some false
def tZ :Nat→aj→Option Bool
 | 0,_=>none
 | k + 1,wJ=>C9 (tZ k) wJ
def MC (wJ:aj):Option Bool:=tZ BIG wJ
def wo (kR:ak→List aG→Option Bool) (e1:ak) (b_:List aG):Nat→Int→Option Bool
 | 0,_=>none
 | bP + 1,i1=>
  if decide (i1 < (e1.args.length:Int)) then
   au (idx e1.args i1) fun e2=>
   au (kR e2 b_) fun x3=>
   if !x3 then
    some false
   else
    wo kR e1 b_ bP (bW (i1 + 1))
  else
   some true
def Ca (kR:ak→List aG→Option Bool) (e1:ak) (b_:List aG):Option Bool:=
 fP (mW e1 b_) fun x1 f1=>
 au (
   if f1 != 0 then
    some true
   else
    au (MC x1) fun x2=>
    some (!x2)) fun b1=>
 if b1 then
  some false
 else
  wo kR e1 b_ BIG 0
def nW :Nat→ak→List aG→Option Bool
 | 0,_,_=>none
 | k + 1,iO,gB=>Ca (nW k) iO gB
def K_ (iO:ak) (gB:List aG):Option Bool:=nW BIG iO gB
def zQ (e1:ak) (b_:List aG):Option Bool:=
 fP (C_ e1 b_) fun x1 f1=>
 if f1 == 0 then
  K_ e1 b_
 else
  some false
def lV (iK:ak) (bR:List Int) (bU:List aB):Nat→List aG→Int→Option Bool
 | 0,_,_=>none
 | bP + 1,l1,i1=>
  if decide (i1 < (bU.length:Int)) then
   au (idx bU i1) fun e1=>
   au (idx bU i1) fun e2=>
   au (IZ e2.value) fun x5=>
   au (app l1 [(aG.mk e1.name x5)]) fun l2=>
   lV iK bR bU bP l2 (bW (i1 + 1))
  else
   au (gK iK l1) fun x6=>
   if x6 != 0 then
    vD
   else
    fP (oU iK bR bU) fun x8 e3=>
    au (
      if e3 != 10 then
       if e3 != 9 then
        some true
       else
        au (CK l1) fun x9=>
        au (zQ iK x9) fun BH=>
        some (!BH)
      else
       some false) fun b2=>
    if b2 then
     vD
    else
     some false
def rP (iK:ak) (bR:List Int) (bU:List aB):Option Bool:=
 au (FN iK (bW ((bR.length:Int) + (bU.length:Int)))) fun x1=>
 au (
   if !x1 then
    some true
   else
    au (Mw bR bU) fun x2=>
    au (MB x2) fun x3=>
    some (x3 != 0)) fun b1=>
 if b1 then
  vD
 else
  lV iK bR bU BIG [] 0
end Go.Ft
