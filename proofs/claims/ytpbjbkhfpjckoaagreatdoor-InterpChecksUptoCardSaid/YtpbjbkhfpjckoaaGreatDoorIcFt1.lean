/- Proved here: nothing: the functional texts of the functions that the statements reach, as our program wrote them. -/
import Derived.Test.YtpbjbkhfpjckoaaGreatDoorIcWords
set_option linter.unusedVariables false
set_option linter.unusedSimpArgs false
set_option linter.unusedSectionVars false
namespace Go.Ft
open Go
structure aA where
 kind:Int
 text:Str
 at_:Int
 deriving DecidableEq
structure aj where
 ts:List aA
 at_:Int
 deriving DecidableEq
structure aB where
 at_:Int
 code:Int
 deriving DecidableEq
structure av where
 kind:Int
 lJ:Bool
 mZ:Int
 pF:Str
 dh:List av
 keys:List Str
structure ah where
 kind:Int
 name:Str
 value:av
 args:List ah
 keys:List Str
structure aK where
 text:Str
 EM:Bool
 expr:ah
structure bT where
 name:Str
 value:av
structure bq where
 code:Int
 deriving DecidableEq
structure au where
 kind:Int
 elem:List au
structure aO where
 name:Str
 nG:au
structure aa1 where
 x:Int
 y:Int
 signed:Bool
 code:UInt8
 deriving DecidableEq
structure AQ where
 x:Int
 y:Int
 signed:Bool
 code:UInt8
 deriving DecidableEq
structure aa0 where
 msg:Str
 addr:BitVec 64
 deriving DecidableEq
structure sI where
 msg:Str
 addr:BitVec 64
 deriving DecidableEq
structure aaZ where
 kind:Int
 lJ:Bool
 mZ:Int
 pF:Str
 dh:List av
 keys:List Str
structure aaY where
 kind:Int
 name:Str
 value:av
 args:List ah
 keys:List Str
structure aaX where
 text:Str
 EM:Bool
 expr:ah
structure aaW where
 name:Str
 value:av
structure aaV where
 kind:Int
 elem:List au
structure aaU where
 name:Str
 nG:au
structure aaT where
 kind:Int
 text:Str
 at_:Int
 deriving DecidableEq
structure aaS where
 ts:List aA
 at_:Int
 deriving DecidableEq
structure aaR where
 at_:Int
 code:Int
 deriving DecidableEq
structure aaQ where
 code:Int
 deriving DecidableEq
structure aaP where
 lo:UInt8
 hi:UInt8
 deriving DecidableEq
structure Ea where
 lo:UInt8
 hi:UInt8
 deriving DecidableEq
structure aaO where
 neg:Bool
 hi:BitVec 64
 lo:BitVec 64
 deriving DecidableEq
structure BI where
 neg:Bool
 hi:BitVec 64
 lo:BitVec 64
 deriving DecidableEq
structure ajl where
 half:List (BitVec 64)
 neg:Bool
 deriving DecidableEq
structure afR where
 half:List (BitVec 64)
 neg:Bool
 deriving DecidableEq
structure ajk where
 func:Str
 num:Str
 err:Option Nat
structure Yt where
 func:Str
 num:Str
 err:Option Nat
structure aaN where
 s:Str
 deriving DecidableEq
structure BK where
 s:Str
 deriving DecidableEq
def aA.bulk (x:aA):Nat:=1 + (x.text.length + 1) + 1 + 1
def aj.bulk (x:aj):Nat:=((List.map (fun z:aA=>(aA.bulk z)) x.ts).sum + 1) + 1 + 1
def aB.bulk (x:aB):Nat:=1 + 1 + 1
mutual
def av.bulk :av→Nat
 | ⟨a0,a1,a2,a3,a4,a5⟩=>1 + 1 + 1 + (a3.length + 1) + (av.kT a4 + 1) + ((List.map (fun z:Str=>(z.length + 1)) a5).sum + 1) + 1
def av.kT :List av→Nat
 | []=>0
 | x :: xs=>av.bulk x + av.kT xs
end
theorem av.pE :∀ l:List av,av.kT l=(l.map av.bulk).sum
 | []=>rfl
 | x :: l=>by simp only [av.kT,List.map_cons,List.sum_cons,av.pE l]
theorem av.lZ (x:av):av.bulk x=1 + 1 + 1 + (x.pF.length + 1) + (av.kT x.dh + 1) + ((List.map (fun z:Str=>(z.length + 1)) x.keys).sum + 1) + 1:=by cases x; rfl
mutual
def ah.bulk :ah→Nat
 | ⟨a0,a1,a2,a3,a4⟩=>1 + (a1.length + 1) + (av.bulk a2) + (ah.kT a3 + 1) + ((List.map (fun z:Str=>(z.length + 1)) a4).sum + 1) + 1
def ah.kT :List ah→Nat
 | []=>0
 | x :: xs=>ah.bulk x + ah.kT xs
end
theorem ah.pE :∀ l:List ah,ah.kT l=(l.map ah.bulk).sum
 | []=>rfl
 | x :: l=>by simp only [ah.kT,List.map_cons,List.sum_cons,ah.pE l]
theorem ah.lZ (x:ah):ah.bulk x=1 + (x.name.length + 1) + (av.bulk x.value) + (ah.kT x.args + 1) + ((List.map (fun z:Str=>(z.length + 1)) x.keys).sum + 1) + 1:=by cases x; rfl
def aK.bulk (x:aK):Nat:=(x.text.length + 1) + 1 + (ah.bulk x.expr) + 1
def bT.bulk (x:bT):Nat:=(x.name.length + 1) + (av.bulk x.value) + 1
def bq.bulk (x:bq):Nat:=1 + 1
mutual
def au.bulk :au→Nat
 | ⟨a0,a1⟩=>1 + (au.kT a1 + 1) + 1
def au.kT :List au→Nat
 | []=>0
 | x :: xs=>au.bulk x + au.kT xs
end
theorem au.pE :∀ l:List au,au.kT l=(l.map au.bulk).sum
 | []=>rfl
 | x :: l=>by simp only [au.kT,List.map_cons,List.sum_cons,au.pE l]
theorem au.lZ (x:au):au.bulk x=1 + (au.kT x.elem + 1) + 1:=by cases x; rfl
def aO.bulk (x:aO):Nat:=(x.name.length + 1) + (au.bulk x.nG) + 1
def aa1.bulk (x:aa1):Nat:=1 + 1 + 1 + 1 + 1
def AQ.bulk (x:AQ):Nat:=1 + 1 + 1 + 1 + 1
def aa0.bulk (x:aa0):Nat:=(x.msg.length + 1) + 1 + 1
def sI.bulk (x:sI):Nat:=(x.msg.length + 1) + 1 + 1
def aaZ.bulk (x:aaZ):Nat:=1 + 1 + 1 + (x.pF.length + 1) + (av.kT x.dh + 1) + ((List.map (fun z:Str=>(z.length + 1)) x.keys).sum + 1) + 1
def aaY.bulk (x:aaY):Nat:=1 + (x.name.length + 1) + (av.bulk x.value) + (ah.kT x.args + 1) + ((List.map (fun z:Str=>(z.length + 1)) x.keys).sum + 1) + 1
def aaX.bulk (x:aaX):Nat:=(x.text.length + 1) + 1 + (ah.bulk x.expr) + 1
def aaW.bulk (x:aaW):Nat:=(x.name.length + 1) + (av.bulk x.value) + 1
def aaV.bulk (x:aaV):Nat:=1 + (au.kT x.elem + 1) + 1
def aaU.bulk (x:aaU):Nat:=(x.name.length + 1) + (au.bulk x.nG) + 1
def aaT.bulk (x:aaT):Nat:=1 + (x.text.length + 1) + 1 + 1
def aaS.bulk (x:aaS):Nat:=((List.map (fun z:aA=>(aA.bulk z)) x.ts).sum + 1) + 1 + 1
def aaR.bulk (x:aaR):Nat:=1 + 1 + 1
def aaQ.bulk (x:aaQ):Nat:=1 + 1
def aaP.bulk (x:aaP):Nat:=1 + 1 + 1
def Ea.bulk (x:Ea):Nat:=1 + 1 + 1
def aaO.bulk (x:aaO):Nat:=1 + 1 + 1 + 1
def BI.bulk (x:BI):Nat:=1 + 1 + 1 + 1
def aaN.bulk (x:aaN):Nat:=(x.s.length + 1) + 1
def BK.bulk (x:BK):Nat:=(x.s.length + 1) + 1
def Iw :Option Str:=
 some ([36,123]:List UInt8)
def lF (s1:Str) (vC:Str):Option Bool:=
 if decide ((vC.length:Int)≤(s1.length:Int)) then
  ay (sl s1 0 (vC.length:Int)) fun x1=>
  some (x1 == vC)
 else
  some false
def strings_HasPrefix (s1:Str) (vC:Str):Option Bool:=
 lF s1 vC
def kR (s1:Str):Nat→Int→Option Int
 | 0,_=>none
 | dQ + 1,i1=>
  if decide (i1 < (s1.length:Int)) then
   ay (idx s1 i1) fun x1=>
   if (x1.toNat:Int) == 92 then
    kR s1 dQ (bL ((bL (i1 + 1)) + 1))
   else
    if (x1.toNat:Int) == 34 then
     some (bL (i1 + 1))
    else
     kR s1 dQ (bL (i1 + 1))
  else
   some (s1.length:Int)
def wZ (s1:Str) (bK:Int):Option Int:=
 kR s1 BIG (bL (bK + 1))
def fK (s1:Str):Nat→Int→Int→Option Int
 | 0,_,_=>none
 | dQ + 1,at2,gy=>
  if decide (at2 < (s1.length:Int)) then
   ay (idx s1 at2) fun x1=>
   if (x1.toNat:Int) == 34 then
    ay (wZ s1 at2) fun at3=>
    fK s1 dQ at3 gy
   else
    if (x1.toNat:Int) == 123 then
     fK s1 dQ (bL (at2 + 1)) (bL (gy + 1))
    else
     if (x1.toNat:Int) == 125 then
      if gy == 0 then
       some at2
      else
       fK s1 dQ (bL (at2 + 1)) (bL (gy - 1))
     else
      fK s1 dQ (bL (at2 + 1)) gy
  else
   some (-1)
def vP (s1:Str) (bK:Int):Option Int:=
 fK s1 BIG bK 0
def vO (nH:Int):Option Bool:=
 some ((nH == 32) || (nH == 9))
def oQ (s1:Str) (vZ:UInt8→Option Bool):Nat→Int→Option Int
 | 0,_=>none
 | dQ + 1,at2=>
  ay (
    if decide (at2 < (s1.length:Int)) then
     ay (idx s1 at2) fun x1=>
     vZ x1
    else
     some false) fun b1=>
  if b1 then
   oQ s1 vZ dQ (bL (at2 + 1))
  else
   some at2
def rC (s1:Str) (bK:Int) (vZ:UInt8→Option Bool):Option Int:=
 oQ s1 vZ BIG bK
def oV (c1:UInt8):Option Bool:=
 some ((c1.toNat:Int) != 10)
def pU (c1:UInt8):Option Bool:=
 some ((((decide (97≤(c1.toNat:Int))) && (decide ((c1.toNat:Int)≤122))) || ((decide (65≤(c1.toNat:Int))) && (decide ((c1.toNat:Int)≤90)))) || ((c1.toNat:Int) == 95))
def pG (c1:UInt8):Option Bool:=
 some ((decide (48≤(c1.toNat:Int))) && (decide ((c1.toNat:Int)≤57)))
def r_ (c1:UInt8):Option Bool:=
 ay (pU c1) fun x1=>
 if x1 then
  some true
 else
  pG c1
def Ao (aZ:Str) (bK:Int):Option (aA × Int × Int):=
 ay (rC aZ bK r_) fun ql=>
 if decide (64 < (bL (ql - bK))) then
  some ((aA.mk 0 ([]:Str) 0),0,3)
 else
  ay (sl aZ bK ql) fun x1=>
  some ((aA.mk 1 x1 bK),ql,0)
def oU (vY:Str):Nat→Int→Int→Option Bool
 | 0,_,_=>none
 | dQ + 1,n1,i1=>
  if (decide (i1 < (vY.length:Int))) && (decide (n1≤9007199254740992)) then
   ay (idx vY i1) fun x1=>
   oU vY dQ (bL ((bL (10 * n1)) + ((x1 - 48).toNat:Int))) (bL (i1 + 1))
  else
   some (decide (9007199254740992 < n1))
def Br (vY:Str):Option Bool:=
 oU vY BIG 0 0
def vN (aZ:Str) (bK:Int):Option (aA × Int × Int):=
 ay (rC aZ bK pG) fun ql=>
 ay (sl aZ bK ql) fun text1=>
 ay (
   if decide (1 < (text1.length:Int)) then
    ay (idx text1 0) fun x1=>
    some ((x1.toNat:Int) == 48)
   else
    some false) fun b1=>
 ay (
   if b1 then
    some true
   else
    if decide (ql < (aZ.length:Int)) then
     ay (idx aZ ql) fun x2=>
     pU x2
    else
     some false) fun b2=>
 if b2 then
  some ((aA.mk 0 ([]:Str) 0),0,5)
 else
  ay (Br text1) fun x4=>
  if x4 then
   some ((aA.mk 0 ([]:Str) 0),0,2)
  else
   some ((aA.mk 2 text1 bK),ql,0)
def sj (c1:UInt8):Option Int:=
 ay (pG c1) fun x1=>
 if x1 then
  some ((c1 - 48).toNat:Int)
 else
  if (decide (97≤(c1.toNat:Int))) && (decide ((c1.toNat:Int)≤102)) then
   some (bL (((c1 - 97).toNat:Int) + 10))
  else
   if (decide (65≤(c1.toNat:Int))) && (decide ((c1.toNat:Int)≤70)) then
    some (bL (((c1 - 65).toNat:Int) + 10))
   else
    some (-1)
def tJ (aZ:Str) (bK:Int):Option (UInt8 × Int):=
 if decide ((aZ.length:Int)≤(bL (bK + 1))) then
  some (0,0)
 else
  ay (idx aZ (bL (bK + 1))) fun c1=>
  if (c1.toNat:Int) == 34 then
   some (c1,2)
  else
   if (c1.toNat:Int) == 92 then
    some (c1,2)
   else
    if (c1.toNat:Int) == 110 then
     some (10,2)
    else
     if (c1.toNat:Int) == 116 then
      some (9,2)
     else
      if (c1.toNat:Int) == 120 then
       ay (
         if decide ((bL (bK + 3)) < (aZ.length:Int)) then
          ay (idx aZ (bL (bK + 2))) fun x1=>
          ay (sj x1) fun x2=>
          some (decide (0≤x2))
         else
          some false) fun b1=>
       ay (
         if b1 then
          ay (idx aZ (bL (bK + 3))) fun x3=>
          ay (sj x3) fun x4=>
          some (decide (0≤x4))
         else
          some false) fun b2=>
       if b2 then
        ay (idx aZ (bL (bK + 2))) fun x5=>
        ay (sj x5) fun x6=>
        ay (idx aZ (bL (bK + 3))) fun x7=>
        ay (sj x7) fun x8=>
        some ((Ft.byteOf (bL ((bL (16 * x6)) + x8))),4)
       else
        some (0,0)
      else
       some (0,0)
def xR (aZ:Str) (bK:Int):Option Bool:=
 ay (sl aZ (bL (bK + 1)) (aZ.length:Int)) fun HV=>
 if (HV == ([]:Str)) || (HV == ([120]:Str)) then
  some true
 else
  ay (
    if (HV.length:Int) == 2 then
     ay (idx HV 0) fun x1=>
     some ((x1.toNat:Int) == 120)
    else
     some false) fun b2=>
  if b2 then
   ay (idx HV 1) fun x2=>
   ay (sj x2) fun x3=>
   some (decide (0≤x3))
  else
   some false
def ou (aZ:Str) (bK:Int):Nat→Int→Str→Option (aA × Int × Int)
 | 0,_,_=>none
 | dQ + 1,i1,b1=>
  if decide (i1 < (aZ.length:Int)) then
   ay (idx aZ i1) fun c1=>
   if (c1.toNat:Int) == 34 then
    if decide (4096 < (b1.length:Int)) then
     some ((aA.mk 0 ([]:Str) 0),0,3)
    else
     some ((aA.mk 3 b1 bK),(bL (i1 + 1)),0)
   else
    if decide ((c1.toNat:Int) < 32) then
     some ((aA.mk 0 ([]:Str) 0),0,5)
    else
     if (c1.toNat:Int) == 92 then
      dX (tJ aZ i1) fun x1 n1=>
      ay (
        if n1 == 0 then
         xR aZ i1
        else
         some false) fun b2=>
      if b2 then
       some ((aA.mk 0 ([]:Str) 0),0,4)
      else
       if n1 == 0 then
        some ((aA.mk 0 ([]:Str) 0),0,5)
       else
        ay (app b1 [x1]) fun b3=>
        ou aZ bK dQ (bL (i1 + n1)) b3
     else
      ay (app b1 [c1]) fun b4=>
      ou aZ bK dQ (bL (i1 + 1)) b4
  else
   some ((aA.mk 0 ([]:Str) 0),0,4)
def Am (aZ:Str) (bK:Int):Option (aA × Int × Int):=
 ou aZ bK BIG (bL (bK + 1)) []
def iE (aZ:Str) (bK:Int):Nat→Int→Option (aA × Int × Int)
 | 0,_=>none
 | dQ + 1,x1=>
  if decide (x1 < (([2,1]:List Int).length:Int)) then
   ay (idx ([2,1]:List Int) x1) fun n1=>
   if decide ((aZ.length:Int) < (bL (bK + n1))) then
    iE aZ bK dQ (bL (x1 + 1))
   else
    ay (sl aZ bK (bL (bK + n1))) fun s1=>
    if s1 == ([124,124]:Str) then
     some ((aA.mk 4 s1 bK),(bL (bK + n1)),0)
    else
     if s1 == ([38,38]:Str) then
      some ((aA.mk 4 s1 bK),(bL (bK + n1)),0)
     else
      if s1 == ([61,61]:Str) then
       some ((aA.mk 4 s1 bK),(bL (bK + n1)),0)
      else
       if s1 == ([33,61]:Str) then
        some ((aA.mk 4 s1 bK),(bL (bK + n1)),0)
       else
        if s1 == ([60,61]:Str) then
         some ((aA.mk 4 s1 bK),(bL (bK + n1)),0)
        else
         if s1 == ([62,61]:Str) then
          some ((aA.mk 4 s1 bK),(bL (bK + n1)),0)
         else
          if s1 == ([60]:Str) then
           some ((aA.mk 4 s1 bK),(bL (bK + n1)),0)
          else
           if s1 == ([62]:Str) then
            some ((aA.mk 4 s1 bK),(bL (bK + n1)),0)
           else
            if s1 == ([43]:Str) then
             some ((aA.mk 4 s1 bK),(bL (bK + n1)),0)
            else
             if s1 == ([45]:Str) then
              some ((aA.mk 4 s1 bK),(bL (bK + n1)),0)
             else
              if s1 == ([42]:Str) then
               some ((aA.mk 4 s1 bK),(bL (bK + n1)),0)
              else
               if s1 == ([47]:Str) then
                some ((aA.mk 4 s1 bK),(bL (bK + n1)),0)
               else
                if s1 == ([37]:Str) then
                 some ((aA.mk 4 s1 bK),(bL (bK + n1)),0)
                else
                 if s1 == ([33]:Str) then
                  some ((aA.mk 4 s1 bK),(bL (bK + n1)),0)
                 else
                  if s1 == ([63]:Str) then
                   some ((aA.mk 4 s1 bK),(bL (bK + n1)),0)
                  else
                   if s1 == ([58]:Str) then
                    some ((aA.mk 4 s1 bK),(bL (bK + n1)),0)
                   else
                    if s1 == ([46]:Str) then
                     some ((aA.mk 4 s1 bK),(bL (bK + n1)),0)
                    else
                     if s1 == ([44]:Str) then
                      some ((aA.mk 4 s1 bK),(bL (bK + n1)),0)
                     else
                      if s1 == ([61]:Str) then
                       some ((aA.mk 4 s1 bK),(bL (bK + n1)),0)
                      else
                       if s1 == ([40]:Str) then
                        some ((aA.mk 4 s1 bK),(bL (bK + n1)),0)
                       else
                        if s1 == ([41]:Str) then
                         some ((aA.mk 4 s1 bK),(bL (bK + n1)),0)
                        else
                         if s1 == ([91]:Str) then
                          some ((aA.mk 4 s1 bK),(bL (bK + n1)),0)
                         else
                          if s1 == ([93]:Str) then
                           some ((aA.mk 4 s1 bK),(bL (bK + n1)),0)
                          else
                           if s1 == ([123]:Str) then
                            some ((aA.mk 4 s1 bK),(bL (bK + n1)),0)
                           else
                            if s1 == ([125]:Str) then
                             some ((aA.mk 4 s1 bK),(bL (bK + n1)),0)
                            else
                             iE aZ bK dQ (bL (x1 + 1))
  else
   some ((aA.mk 0 ([]:Str) 0),0,5)
def rD (aZ:Str) (bK:Int):Option (aA × Int × Int):=
 iE aZ bK BIG 0
def xQ (aZ:Str) (bK:Int):Option (aA × Int × Int):=
 ay (idx aZ bK) fun c1=>
 ay (pU c1) fun x1=>
 if x1 then
  Ao aZ bK
 else
  ay (pG c1) fun x5=>
  if x5 then
   vN aZ bK
  else
   if (c1.toNat:Int) == 34 then
    Am aZ bK
   else
    rD aZ bK
def rE (op1:Str) (gy:Int):Option Int:=
 if op1 == ([40]:Str) then
  some (bL (gy + 1))
 else
  if op1 == ([91]:Str) then
   some (bL (gy + 1))
  else
   if op1 == ([41]:Str) then
    some (if 0 < (bL (gy - 1)) then (bL (gy - 1)) else 0)
   else
    if op1 == ([93]:Str) then
     some (if 0 < (bL (gy - 1)) then (bL (gy - 1)) else 0)
    else
     some gy
def gY (aZ:Str):Nat→List aA→Int→Int→Nat→Option (List aA × Int × Int)
 | 0,_,_,_,_=>none
 | dQ + 1,dx,iR,gy,pos1=>
  if decide (pos1 < aZ.length) then
   ay (
     if decide ((pos1:Int) < iR) then
      some true
     else
      vO ((dec aZ pos1).1:Int)) fun b1=>
   if b1 then
    gY aZ dQ dx iR gy (pos1 + (dec aZ pos1).2)
   else
    if ((dec aZ pos1).1:Int) == 35 then
     ay (rC aZ (pos1:Int) oV) fun xP=>
     gY aZ dQ dx xP gy (pos1 + (dec aZ pos1).2)
    else
     if ((dec aZ pos1).1:Int) == 10 then
      ay (
        if gy == 0 then
         if (dx.length:Int) == 0 then
          some true
         else
          ay (idx dx (bL ((dx.length:Int) - 1))) fun e1=>
          some (e1.kind != 5)
        else
         some false) fun b2=>
      if b2 then
       ay (app dx [(aA.mk 5 ([]:Str) (pos1:Int))]) fun wE=>
       gY aZ dQ wE iR gy (pos1 + (dec aZ pos1).2)
      else
       gY aZ dQ dx iR gy (pos1 + (dec aZ pos1).2)
     else
      j_ (xQ aZ (pos1:Int)) fun x2 ql e2=>
      if e2 != 0 then
       some ([],(pos1:Int),e2)
      else
       if x2.kind == 4 then
        ay (rE x2.text gy) fun R6=>
        ay (app dx [x2]) fun W9=>
        gY aZ dQ W9 ql R6 (pos1 + (dec aZ pos1).2)
       else
        ay (app dx [x2]) fun Ze=>
        gY aZ dQ Ze ql gy (pos1 + (dec aZ pos1).2)
  else
   some (dx,0,0)
def lT (aZ:Str):Option (List aA × Int × Int):=
 if decide (65536 < (aZ.length:Int)) then
  some ([],0,3)
 else
  gY aZ BIG [] 0 0 0
def tF (c1:UInt8):Option Bool:=
 some ((((decide (97≤(c1.toNat:Int))) && (decide ((c1.toNat:Int)≤122))) || ((decide (65≤(c1.toNat:Int))) && (decide ((c1.toNat:Int)≤90)))) || ((c1.toNat:Int) == 95))
def lS (c1:UInt8):Option Bool:=
 some ((decide (48≤(c1.toNat:Int))) && (decide ((c1.toNat:Int)≤57)))
def oO (s1:Str):Nat→Int→Option Bool
 | 0,_=>none
 | dQ + 1,i1=>
  if decide (i1 < (s1.length:Int)) then
   ay (idx s1 i1) fun x3=>
   ay (tF x3) fun x4=>
   ay (
     if !x4 then
      ay (idx s1 i1) fun x5=>
      ay (lS x5) fun x6=>
      some (!x6)
     else
      some false) fun b2=>
   if b2 then
    some false
   else
    oO s1 dQ (bL (i1 + 1))
  else
   some true
def uP (s1:Str):Option Bool:=
 ay (
   if (decide ((s1.length:Int) < 1)) || (decide (64 < (s1.length:Int))) then
    some true
   else
    ay (idx s1 0) fun x1=>
    ay (tF x1) fun x2=>
    some (!x2)) fun b1=>
 if b1 then
  some false
 else
  oO s1 BIG 0
def strconv_Itoa (n1:Int):Option Str:=
 if -9223372036854775808≤n1∧n1≤9223372036854775807 then some (VF n1) else none
def strconv_Atoi (s1:Str):Option (Int × Option Nat):=
 if s1.length≤281474976710656 then some ((CV s1).2,if (CV s1).1=0 then none else some 353) else none
def jV (s1:Str):Nat→Int→Option Bool
 | 0,_=>none
 | dQ + 1,i1=>
  if decide (i1 < (s1.length:Int)) then
   ay (idx s1 i1) fun x2=>
   ay (lS x2) fun x3=>
   if !x3 then
    some false
   else
    jV s1 dQ (bL (i1 + 1))
  else
   dX (strconv_Atoi s1) fun n1 SF=>
   some ((SF.isNone) && (decide (n1≤9007199254740992)))
def rz (s1:Str):Option Bool:=
 ay (
   if s1 == ([]:Str) then
    some true
   else
    if decide (1 < (s1.length:Int)) then
     ay (idx s1 0) fun x1=>
     some ((x1.toNat:Int) == 48)
    else
     some false) fun b1=>
 if b1 then
  some false
 else
  jV s1 BIG 0
def iL (t1:aA):Option Bool:=
 if t1.kind == 1 then
  uP t1.text
 else
  if t1.kind == 2 then
   rz t1.text
  else
   if t1.kind == 3 then
    some (decide ((t1.text.length:Int)≤4096))
   else
    if t1.kind == 4 then
     some true
    else
     some false
def iM (nH:aj):Option (aA × aj):=
 ay (
   if decide (nH.at_ < (nH.ts.length:Int)) then
    ay (idx nH.ts nH.at_) fun e1=>
    iL e1
   else
    some false) fun b1=>
 if b1 then
  ay (idx nH.ts nH.at_) fun e2=>
  some (e2,nH)
 else
  some ((aA.mk 0 ([]:Str) 0),nH)
def r9 (nH:aj) (op1:Str):Option (Bool × aj):=
 dX (iM nH) fun x1 y1=>
 some (((x1.kind == 4) && (x1.text == op1)),y1)
def bU (nH:aj) (op1:Str):Option (Bool × aj):=
 dX (r9 nH op1) fun x1 y1=>
 if !x1 then
  some (false,y1)
 else
  some (true,(aj.mk y1.ts (bL (y1.at_ + 1))))
def fB (nH:aj) (e1:Int):Option (gT aB Unit × aj):=
 some (.bad (aB.mk nH.at_ e1),nH)
def iN (nH:aj):Option (gT aB aA × aj):=
 if decide ((nH.ts.length:Int)≤nH.at_) then
  dZ (fB nH 4) (fun e1 y2=>some (.bad e1,y2)) fun _ y1=>
  dX (iM y1) fun x1 y3=>
  if x1.kind == 0 then
   dZ (fB y3 5) (fun e2 y5=>some (.bad e2,y5)) fun _ y4=>
   some (.ok x1,y4)
  else
   some (.ok x1,y3)
 else
  dX (iM nH) fun x2 y6=>
  if x2.kind == 0 then
   dZ (fB y6 5) (fun e3 y8=>some (.bad e3,y8)) fun _ y7=>
   some (.ok x2,y7)
  else
   some (.ok x2,y6)
def oP (v1:av):Option ah:=
 some (ah.mk 1 ([]:Str) v1 [] [])
def nL (s1:Str):Option Bool:=
 some (((s1 == ([116,114,117,101]:Str)) || (s1 == ([102,97,108,115,101]:Str))) || (s1 == ([110,117,108,108]:Str)))
def dO (nH:aj) (op1:Str):Option (gT aB Unit × aj):=
 dZ (iN nH) (fun e1 y2=>some (.bad e1,y2)) fun x1 y1=>
 dX (bU y1 op1) fun x2 y3=>
 if !x2 then
  dZ (fB y3 5) (fun e2 y5=>some (.bad e2,y5)) fun _ y4=>
  some (.ok (),y4)
 else
  some (.ok (),y3)
def gF (op1:Str):Option Int:=
 if op1 == ([124,124]:Str) then
  some 2
 else
  if op1 == ([38,38]:Str) then
   some 3
  else
   if op1 == ([61,61]:Str) then
    some 4
   else
    if op1 == ([33,61]:Str) then
     some 4
    else
     if op1 == ([60]:Str) then
      some 4
     else
      if op1 == ([60,61]:Str) then
       some 4
      else
       if op1 == ([62]:Str) then
        some 4
       else
        if op1 == ([62,61]:Str) then
         some 4
        else
         if op1 == ([43]:Str) then
          some 5
         else
          if op1 == ([45]:Str) then
           some 5
          else
           if op1 == ([42]:Str) then
            some 6
           else
            if op1 == ([47]:Str) then
             some 6
            else
             if op1 == ([37]:Str) then
              some 6
             else
              some 0
def kI (aL:aj→Option (gT aB ah × aj)) (aU:aj→Int→Option (gT aB ah × aj)) (bn:aj→Option (gT aB ah × aj)) (bB:aj→Option (gT aB ah × aj)) (bQ:aj→Option (gT aB ah × aj)) (bP:aj→Str→Option (gT aB ah × aj)) (bN:aj→Str→Option (gT aB (List ah) × aj)) (bH:aj→Option (gT aB ah × aj)) (nH:aj):Option (gT aB ah × aj):=
 dZ (aU nH 2) (fun e1 y2=>some (.bad e1,y2)) fun x1 y1=>
 dX (bU y1 ([63]:Str)) fun x2 y3=>
 if !x2 then
  some (.ok x1,y3)
 else
  dZ (aL y3) (fun e2 y5=>some (.bad e2,y5)) fun x3 y4=>
  dZ (dO y4 ([58]:Str)) (fun e3 y7=>some (.bad e3,y7)) fun _ y6=>
  dZ (aL y6) (fun e4 y9=>some (.bad e4,y9)) fun x4 y8=>
  some (.ok (ah.mk 8 ([]:Str) (av.mk 0 false 0 ([]:Str) [] []) [x1,x3,x4] []),y8)
def gJ (aU:aj→Int→Option (gT aB ah × aj)) (n1:Int):Nat→ah→aj→Option (gT aB ah × aj)
 | 0,_,_=>none
 | dQ + 1,e3,y5=>
  dX (iM y5) fun x3 y6=>
  ay (
    if x3.kind != 4 then
     some true
    else
     ay (gF x3.text) fun x4=>
     some (x4 != n1)) fun b1=>
  if b1 then
   some (.ok e3,y6)
  else
   dZ (aU (aj.mk y6.ts (bL (y6.at_ + 1))) (bL (n1 + 1))) (fun e4 y8=>some (.bad e4,y8)) fun x5 y7=>
   if n1 == 4 then
    some (.ok (ah.mk 7 x3.text (av.mk 0 false 0 ([]:Str) [] []) [e3,x5] []),y7)
   else
    gJ aU n1 dQ (ah.mk 7 x3.text (av.mk 0 false 0 ([]:Str) [] []) [e3,x5] []) y7
def iZ (aL:aj→Option (gT aB ah × aj)) (aU:aj→Int→Option (gT aB ah × aj)) (bn:aj→Option (gT aB ah × aj)) (bB:aj→Option (gT aB ah × aj)) (bQ:aj→Option (gT aB ah × aj)) (bP:aj→Str→Option (gT aB ah × aj)) (bN:aj→Str→Option (gT aB (List ah) × aj)) (bH:aj→Option (gT aB ah × aj)) (nH:aj) (n1:Int):Option (gT aB ah × aj):=
 if n1 == 7 then
  dZ (bn nH) (fun e1 y2=>some (.bad e1,y2)) fun x1 y1=>
  some (.ok x1,y1)
 else
  dZ (aU nH (bL (n1 + 1))) (fun e2 y4=>some (.bad e2,y4)) fun x2 y3=>
  gJ aU n1 BIG x2 y3
def gU (bn:aj→Option (gT aB ah × aj)) (bB:aj→Option (gT aB ah × aj)):Nat→Int→aj→Option (gT aB ah × aj)
 | 0,_,_=>none
 | dQ + 1,x1,y1=>
  if decide (x1 < (([([33]:Str),([45]:Str)]:List Str).length:Int)) then
   ay (idx ([([33]:Str),([45]:Str)]:List Str) x1) fun op1=>
   dX (bU y1 op1) fun x2 y2=>
   if x2 then
    dZ (bn y2) (fun e1 y4=>some (.bad e1,y4)) fun x3 y3=>
    some (.ok (ah.mk 6 op1 (av.mk 0 false 0 ([]:Str) [] []) [x3] []),y3)
   else
    gU bn bB dQ (bL (x1 + 1)) y2
  else
   dZ (bB y1) (fun e2 y6=>some (.bad e2,y6)) fun x4 y5=>
   some (.ok x4,y5)
def mU (aL:aj→Option (gT aB ah × aj)) (aU:aj→Int→Option (gT aB ah × aj)) (bn:aj→Option (gT aB ah × aj)) (bB:aj→Option (gT aB ah × aj)) (bQ:aj→Option (gT aB ah × aj)) (bP:aj→Str→Option (gT aB ah × aj)) (bN:aj→Str→Option (gT aB (List ah) × aj)) (bH:aj→Option (gT aB ah × aj)) (nH:aj):Option (gT aB ah × aj):=
 gU bn bB BIG 0 nH
def eO (aL:aj→Option (gT aB ah × aj)):Nat→ah→aj→Option (gT aB ah × aj)
 | 0,_,_=>none
 | dQ + 1,e2,y3=>
  dX (bU y3 ([46]:Str)) fun x2 y4=>
  if x2 then
   dZ (iN y4) (fun e3 y6=>some (.bad e3,y6)) fun x3 y5=>
   ay (
     if x3.kind != 1 then
      some true
     else
      nL x3.text) fun b1=>
   if b1 then
    dZ (fB y5 5) (fun e4 y8=>some (.bad e4,y8)) fun _ y7=>
    eO aL dQ (ah.mk 3 x3.text (av.mk 0 false 0 ([]:Str) [] []) [e2] []) (aj.mk y7.ts (bL (y7.at_ + 1)))
   else
    eO aL dQ (ah.mk 3 x3.text (av.mk 0 false 0 ([]:Str) [] []) [e2] []) (aj.mk y5.ts (bL (y5.at_ + 1)))
  else
   dX (bU y4 ([91]:Str)) fun x5 y9=>
   if x5 then
    dZ (aL y9) (fun e5 y11=>some (.bad e5,y11)) fun x6 y10=>
    dZ (dO y10 ([93]:Str)) (fun e6 y13=>some (.bad e6,y13)) fun _ y12=>
    eO aL dQ (ah.mk 4 ([]:Str) (av.mk 0 false 0 ([]:Str) [] []) [e2,x6] []) y12
   else
    some (.ok e2,y9)
def mV (aL:aj→Option (gT aB ah × aj)) (aU:aj→Int→Option (gT aB ah × aj)) (bn:aj→Option (gT aB ah × aj)) (bB:aj→Option (gT aB ah × aj)) (bQ:aj→Option (gT aB ah × aj)) (bP:aj→Str→Option (gT aB ah × aj)) (bN:aj→Str→Option (gT aB (List ah) × aj)) (bH:aj→Option (gT aB ah × aj)) (nH:aj):Option (gT aB ah × aj):=
 dZ (bQ nH) (fun e1 y2=>some (.bad e1,y2)) fun x1 y1=>
 eO aL BIG x1 y1
def nN (aL:aj→Option (gT aB ah × aj)) (aU:aj→Int→Option (gT aB ah × aj)) (bn:aj→Option (gT aB ah × aj)) (bB:aj→Option (gT aB ah × aj)) (bQ:aj→Option (gT aB ah × aj)) (bP:aj→Str→Option (gT aB ah × aj)) (bN:aj→Str→Option (gT aB (List ah) × aj)) (bH:aj→Option (gT aB ah × aj)) (nH:aj):Option (gT aB ah × aj):=
 dZ (iN nH) (fun e1 y2=>some (.bad e1,y2)) fun x1 y1=>
 if x1.kind == 2 then
  dX (strconv_Atoi x1.text) fun n1 x2=>
  ay (oP (av.mk 2 false n1 ([]:Str) [] [])) fun x3=>
  some (.ok x3,(aj.mk y1.ts (bL (y1.at_ + 1))))
 else
  if x1.kind == 3 then
   ay (oP (av.mk 3 false 0 x1.text [] [])) fun x4=>
   some (.ok x4,(aj.mk y1.ts (bL (y1.at_ + 1))))
  else
   if x1.kind == 1 then
    dZ (bP (aj.mk y1.ts (bL (y1.at_ + 1))) x1.text) (fun e2 y4=>some (.bad e2,y4)) fun x5 y3=>
    some (.ok x5,y3)
   else
    dX (bU y1 ([40]:Str)) fun x6 y5=>
    if x6 then
     dZ (aL y5) (fun e3 y7=>some (.bad e3,y7)) fun x7 y6=>
     dZ (dO y6 ([41]:Str)) (fun e4 y9=>some (.bad e4,y9)) fun _ y8=>
     some (.ok x7,y8)
    else
     dX (bU y5 ([91]:Str)) fun x8 y10=>
     if x8 then
      dZ (bN y10 ([93]:Str)) (fun e5 y12=>some (.bad e5,y12)) fun x9 y11=>
      some (.ok (ah.mk 9 ([]:Str) (av.mk 0 false 0 ([]:Str) [] []) x9 []),y11)
     else
      dX (bU y10 ([123]:Str)) fun KQ y13=>
      if KQ then
       dZ (bH y13) (fun e6 y15=>some (.bad e6,y15)) fun PO y14=>
       some (.ok PO,y14)
      else
       dZ (fB y13 5) (fun e7 y17=>some (.bad e7,y17)) fun _ y16=>
       some (.ok (ah.mk 0 ([]:Str) (av.mk 0 false 0 ([]:Str) [] []) [] []),y16)
def nM (aL:aj→Option (gT aB ah × aj)) (aU:aj→Int→Option (gT aB ah × aj)) (bn:aj→Option (gT aB ah × aj)) (bB:aj→Option (gT aB ah × aj)) (bQ:aj→Option (gT aB ah × aj)) (bP:aj→Str→Option (gT aB ah × aj)) (bN:aj→Str→Option (gT aB (List ah) × aj)) (bH:aj→Option (gT aB ah × aj)) (nH:aj) (s1:Str):Option (gT aB ah × aj):=
 if s1 == ([110,117,108,108]:Str) then
  ay (oP (av.mk 0 false 0 ([]:Str) [] [])) fun x1=>
  some (.ok x1,nH)
 else
  ay (nL s1) fun x2=>
  if x2 then
   ay (oP (av.mk 1 (s1 == ([116,114,117,101]:Str)) 0 ([]:Str) [] [])) fun x3=>
   some (.ok x3,nH)
  else
   dX (bU nH ([40]:Str)) fun x4 y1=>
   if x4 then
    dZ (bN y1 ([41]:Str)) (fun e1 y3=>some (.bad e1,y3)) fun x5 y2=>
    some (.ok (ah.mk 5 s1 (av.mk 0 false 0 ([]:Str) [] []) x5 []),y2)
   else
    some (.ok (ah.mk 2 s1 (av.mk 0 false 0 ([]:Str) [] []) [] []),y1)
def jo (aL:aj→Option (gT aB ah × aj)) (ql:Str):Nat→List ah→aj→Option (gT aB (List ah) × aj)
 | 0,_,_=>none
 | dQ + 1,dx,y2=>
  dZ (aL y2) (fun e1 y4=>some (.bad e1,y4)) fun x2 y3=>
  ay (app dx [x2]) fun wE=>
  dX (bU y3 ([44]:Str)) fun x3 y5=>
  if !x3 then
   dZ (dO y5 ql) (fun e2 y7=>some (.bad e2,y7)) fun _ y6=>
   some (.ok wE,y6)
  else
   jo aL ql dQ wE y5
def nO (aL:aj→Option (gT aB ah × aj)) (aU:aj→Int→Option (gT aB ah × aj)) (bn:aj→Option (gT aB ah × aj)) (bB:aj→Option (gT aB ah × aj)) (bQ:aj→Option (gT aB ah × aj)) (bP:aj→Str→Option (gT aB ah × aj)) (bN:aj→Str→Option (gT aB (List ah) × aj)) (bH:aj→Option (gT aB ah × aj)) (nH:aj) (ql:Str):Option (gT aB (List ah) × aj):=
 dX (bU nH ql) fun x1 y1=>
 if x1 then
  some (.ok [],y1)
 else
  jo aL ql BIG [] y1
def fT (aL:aj→Option (gT aB ah × aj)):Nat→ah→aj→Option (gT aB ah × aj)
 | 0,_,_=>none
 | dQ + 1,dx,y2=>
  dZ (iN y2) (fun e1 y4=>some (.bad e1,y4)) fun x2 y3=>
  if (x2.kind != 1) && (x2.kind != 3) then
   dZ (fB y3 5) (fun e2 y6=>some (.bad e2,y6)) fun _ y5=>
   dZ (dO (aj.mk y5.ts (bL (y5.at_ + 1))) ([58]:Str)) (fun e3 y8=>some (.bad e3,y8)) fun _ y7=>
   ay (app dx.keys ([x2.text]:List Str)) fun x3=>
   dZ (aL y7) (fun e4 y10=>some (.bad e4,y10)) fun x4 y9=>
   ay (app dx.args [x4]) fun x5=>
   dX (bU y9 ([44]:Str)) fun x6 y11=>
   if !x6 then
    dZ (dO y11 ([125]:Str)) (fun e5 y13=>some (.bad e5,y13)) fun _ y12=>
    some (.ok (ah.mk dx.kind dx.name dx.value x5 x3),y12)
   else
    fT aL dQ (ah.mk dx.kind dx.name dx.value x5 x3) y11
  else
   dZ (dO (aj.mk y3.ts (bL (y3.at_ + 1))) ([58]:Str)) (fun e6 y15=>some (.bad e6,y15)) fun _ y14=>
   ay (app dx.keys ([x2.text]:List Str)) fun x7=>
   dZ (aL y14) (fun e7 y17=>some (.bad e7,y17)) fun x8 y16=>
   ay (app dx.args [x8]) fun x9=>
   dX (bU y16 ([44]:Str)) fun KQ y18=>
   if !KQ then
    dZ (dO y18 ([125]:Str)) (fun e8 y20=>some (.bad e8,y20)) fun _ y19=>
    some (.ok (ah.mk dx.kind dx.name dx.value x9 x7),y19)
   else
    fT aL dQ (ah.mk dx.kind dx.name dx.value x9 x7) y18
def lC (aL:aj→Option (gT aB ah × aj)) (aU:aj→Int→Option (gT aB ah × aj)) (bn:aj→Option (gT aB ah × aj)) (bB:aj→Option (gT aB ah × aj)) (bQ:aj→Option (gT aB ah × aj)) (bP:aj→Str→Option (gT aB ah × aj)) (bN:aj→Str→Option (gT aB (List ah) × aj)) (bH:aj→Option (gT aB ah × aj)) (nH:aj):Option (gT aB ah × aj):=
 dX (bU nH ([125]:Str)) fun x1 y1=>
 if x1 then
  some (.ok (ah.mk 10 ([]:Str) (av.mk 0 false 0 ([]:Str) [] []) [] []),y1)
 else
  fT aL BIG (ah.mk 10 ([]:Str) (av.mk 0 false 0 ([]:Str) [] []) [] []) y1
mutual
def aV :Nat→aj→Option (gT aB ah × aj)
 | 0,_=>none
 | k + 1,dH=>kI (aV k) (bf k) (bZ k) (dw k) (dA k) (dJ k) (cO k) (cB k) dH
def bf :Nat→aj→Int→Option (gT aB ah × aj)
 | 0,_,_=>none
 | k + 1,dH,TN=>iZ (aV k) (bf k) (bZ k) (dw k) (dA k) (dJ k) (cO k) (cB k) dH TN
def bZ :Nat→aj→Option (gT aB ah × aj)
 | 0,_=>none
 | k + 1,dH=>mU (aV k) (bf k) (bZ k) (dw k) (dA k) (dJ k) (cO k) (cB k) dH
def dw :Nat→aj→Option (gT aB ah × aj)
 | 0,_=>none
 | k + 1,dH=>mV (aV k) (bf k) (bZ k) (dw k) (dA k) (dJ k) (cO k) (cB k) dH
def dA :Nat→aj→Option (gT aB ah × aj)
 | 0,_=>none
 | k + 1,dH=>nN (aV k) (bf k) (bZ k) (dw k) (dA k) (dJ k) (cO k) (cB k) dH
def dJ :Nat→aj→Str→Option (gT aB ah × aj)
 | 0,_,_=>none
 | k + 1,dH,BZ=>nM (aV k) (bf k) (bZ k) (dw k) (dA k) (dJ k) (cO k) (cB k) dH BZ
def cO :Nat→aj→Str→Option (gT aB (List ah) × aj)
 | 0,_,_=>none
 | k + 1,dH,zV=>nO (aV k) (bf k) (bZ k) (dw k) (dA k) (dJ k) (cO k) (cB k) dH zV
def cB :Nat→aj→Option (gT aB ah × aj)
 | 0,_=>none
 | k + 1,dH=>lC (aV k) (bf k) (bZ k) (dw k) (dA k) (dJ k) (cO k) (cB k) dH
end
def oN (dH:aj):Option (gT aB ah × aj):=aV BIG dH
def Cv (dH:aj) (TN:Int):Option (gT aB ah × aj):=bf BIG dH TN
def FT (dH:aj):Option (gT aB ah × aj):=bZ BIG dH
def FU (dH:aj):Option (gT aB ah × aj):=dw BIG dH
def Gw (dH:aj):Option (gT aB ah × aj):=dA BIG dH
def Gv (dH:aj) (BZ:Str):Option (gT aB ah × aj):=dJ BIG dH BZ
def Gx (dH:aj) (zV:Str):Option (gT aB (List ah) × aj):=cO BIG dH zV
def Eb (dH:aj):Option (gT aB ah × aj):=cB BIG dH
def Bo (eH:List aA):Option (ah × Int × Int):=
 dZ (oN (aj.mk eH 0)) (fun f1 _=>some ((ah.mk 0 ([]:Str) (av.mk 0 false 0 ([]:Str) [] []) [] []),f1.at_,f1.code)) fun e1 r1=>
 some (e1,r1.at_,0)
def qd (jG:ah→Option Int) (e1:ah):Nat→Int→Int→Option Int
 | 0,_,_=>none
 | dQ + 1,n1,x1=>
  if decide (x1 < (e1.args.length:Int)) then
   ay (idx e1.args x1) fun e2=>
   ay (jG e2) fun x2=>
   qd jG e1 dQ (bL (n1 + x2)) (bL (x1 + 1))
  else
   some n1
def vI (jG:ah→Option Int) (e1:ah):Option Int:=
 qd jG e1 BIG 1 0
def mK :Nat→ah→Option Int
 | 0,_=>none
 | k + 1,iF=>vI (mK k) iF
def yY (iF:ah):Option Int:=mK BIG iF
def Bn (v1:av):Option Bool:=
 some ((((((v1.kind == 0) && (!v1.lJ)) && (v1.mZ == 0)) && (v1.pF == ([]:Str))) && ((v1.dh.length:Int) == 0)) && ((v1.keys.length:Int) == 0))
def lQ (s1:Str):Option Bool:=
 ay (uP s1) fun x1=>
 if x1 then
  ay (nL s1) fun x2=>
  some (!x2)
 else
  some false
def vE (e1:ah):Option Bool:=
 if e1.kind == 2 then
  lQ e1.name
 else
  if e1.kind == 3 then
   lQ e1.name
  else
   if e1.kind == 5 then
    lQ e1.name
   else
    if e1.kind == 6 then
     some ((e1.name == ([33]:Str)) || (e1.name == ([45]:Str)))
    else
     if e1.kind == 7 then
      ay (gF e1.name) fun x4=>
      some (decide (0 < x4))
     else
      some (e1.name == ([]:Str))
def vG (e1:ah):Option Bool:=
 if e1.kind == 1 then
  some ((e1.args.length:Int) == 0)
 else
  if e1.kind == 2 then
   some ((e1.args.length:Int) == 0)
  else
   if e1.kind == 3 then
    some ((e1.args.length:Int) == 1)
   else
    if e1.kind == 6 then
     some ((e1.args.length:Int) == 1)
    else
     if e1.kind == 4 then
      some ((e1.args.length:Int) == 2)
     else
      if e1.kind == 7 then
       some ((e1.args.length:Int) == 2)
      else
       if e1.kind == 8 then
        some ((e1.args.length:Int) == 3)
       else
        some true
def eU (s1:List Str) (f1:Str→Option Bool):Nat→Int→Option Int
 | 0,_=>none
 | dQ + 1,i1=>
  if decide (i1 < (s1.length:Int)) then
   ay (idx s1 i1) fun e1=>
   ay (f1 e1) fun x1=>
   if x1 then
    some i1
   else
    eU s1 f1 dQ (bL (i1 + 1))
  else
   some (-1)
def iD (s1:List Str) (f1:Str→Option Bool):Option Int:=
 eU s1 f1 BIG 0
def eX (s1:List Str) (f1:Str→Option Bool):Option Bool:=
 ay (iD s1 f1) fun x1=>
 some (decide (0≤x1))
def jv (yw:Str):Option Bool:=
 some ((decide ((yw.length:Int) < 1)) || (decide (64 < (yw.length:Int))))
def vF (e1:ah):Option Bool:=
 if e1.kind != 10 then
  some ((e1.keys.length:Int) == 0)
 else
  if (e1.keys.length:Int) == (e1.args.length:Int) then
   ay (eX e1.keys jv) fun x1=>
   some (!x1)
  else
   some false
def tq {β:Type} (go:β→av→Int→Option (Bool × β)) (v1:av) (bG:Int):Nat→β→Int→Option (Bool × β)
 | 0,_,_=>none
 | dQ + 1,s1,i1=>
  if decide (i1 < (v1.dh.length:Int)) then
   ay (idx v1.dh i1) fun x1=>
   dX (go s1 x1 (bL (bG + 1))) fun b1 s2=>
   if !b1 then
    some (false,s2)
   else
    tq go v1 bG dQ s2 (bL (i1 + 1))
  else
   some (true,s1)
def yQ {β:Type} (go:β→av→Int→Option (Bool × β)) (y:β→Int→av→Option (Bool × β)) (s1:β) (v1:av) (bG:Int):Option (Bool × β):=
 dX (y s1 bG v1) fun b1 s2=>
 if !b1 then
  some (false,s2)
 else
  tq go v1 bG BIG s2 0
def nD {β:Type} (y:β→Int→av→Option (Bool × β)):Nat→β→av→Int→Option (Bool × β)
 | 0,_,_,_=>none
 | k + 1,s1,v1,bG=>yQ (nD y k) y s1 v1 bG
def Gp {β:Type} (y:β→Int→av→Option (Bool × β)) (s1:β) (v1:av) (bG:Int):Option (Bool × β):=nD y BIG s1 v1 bG
def yR (v1:av):Option Bool:=
 some ((((((v1.kind == 1) || (!v1.lJ)) && ((v1.kind == 2) || (v1.mZ == 0))) && ((v1.kind == 3) || (v1.pF == ([]:Str)))) && (((v1.kind == 4) || (v1.kind == 5)) || ((v1.dh.length:Int) == 0))) && ((v1.kind == 5) || ((v1.keys.length:Int) == 0)))
def Bu (c1:UInt8):Option Bool:=
 some ((decide (48≤(c1.toNat:Int))) && (decide ((c1.toNat:Int)≤57)))
def vQ (s1:Str):Nat→Int→Option Int
 | 0,_=>none
 | dQ + 1,n1=>
  ay (
    if decide (n1 < (s1.length:Int)) then
     ay (idx s1 n1) fun x1=>
     Bu x1
    else
     some false) fun b1=>
  if b1 then
   vQ s1 dQ (bL (n1 + 1))
  else
   some n1
def zI (s1:Str):Option Int:=
 vQ s1 BIG 0
def gG (c1:UInt8):Nat→Str→Option Str
 | 0,_=>none
 | dQ + 1,s2=>
  ay (
    if decide (0 < (s2.length:Int)) then
     ay (idx s2 0) fun x1=>
     some ((x1.toNat:Int) == (c1.toNat:Int))
    else
     some false) fun b1=>
  if b1 then
   ay (sl s2 1 (s2.length:Int)) fun s3=>
   gG c1 dQ s3
  else
   some s2
def strings_trimLeftByte (s1:Str) (c1:UInt8):Option Str:=
 gG c1 BIG s1
def mE (s1:Str) (DJ:Str):Option Str:=
 if (s1 == ([]:Str)) || (DJ == ([]:Str)) then
  some s1
 else
  ay (
    if (DJ.length:Int) == 1 then
     ay (idx DJ 0) fun x1=>
     some (decide ((x1.toNat:Int) < 128))
    else
     some false) fun b1=>
  if b1 then
   ay (idx DJ 0) fun x2=>
   strings_trimLeftByte s1 x2
  else
   none
def cmp_isNaN_int (x1:Int):Option Bool:=
 some (x1 != x1)
def cmp_Compare_int (x1:Int) (y1:Int):Option Int:=
 ay (cmp_isNaN_int x1) fun Rk=>
 ay (cmp_isNaN_int y1) fun J5=>
 if Rk then
  if J5 then
   some 0
  else
   some (-1)
 else
  if J5 then
   some 1
  else
   if decide (x1 < y1) then
    some (-1)
   else
    if decide (y1 < x1) then
     some 1
    else
     some 0
def cmp_isNaN_string (x1:Str):Option Bool:=
 some (!(x1 == x1))
def mO (x1:Str) (y1:Str):Option Int:=
 ay (cmp_isNaN_string x1) fun Rk=>
 ay (cmp_isNaN_string y1) fun J5=>
 if Rk then
  if J5 then
   some 0
  else
   some (-1)
 else
  if J5 then
   some 1
  else
   if Go.Op.bytesLess x1 y1 then
    some (-1)
   else
    if !(Go.Op.bytesLess x1 y1 || x1 == y1) then
     some 1
    else
     some 0
def tQ (El:List Int):Nat→Int→Option Int
 | 0,_=>none
 | dQ + 1,x1=>
  if decide (x1 < (El.length:Int)) then
   ay (idx El x1) fun YG=>
   if YG != 0 then
    some YG
   else
    tQ El dQ (bL (x1 + 1))
  else
   some 0
def AB (El:List Int):Option Int:=
 tQ El BIG 0
def tK (a1:Str) (b1:Str):Option Int:=
 ay (mE a1 ([48]:Str)) fun x1=>
 ay (mE b1 ([48]:Str)) fun y1=>
 ay (cmp_Compare_int (x1.length:Int) (y1.length:Int)) fun x2=>
 ay (mO x1 y1) fun x3=>
 ay (cmp_Compare_int (a1.length:Int) (b1.length:Int)) fun x4=>
 AB ([x2,x3,x4]:List Int)
def rM (x1:UInt8):Option Bool:=
 some ((x1.toNat:Int) != (x1.toNat:Int))
def o9 (x1:UInt8) (y1:UInt8):Option Int:=
 ay (rM x1) fun Rk=>
 ay (rM y1) fun J5=>
 if Rk then
  if J5 then
   some 0
  else
   some (-1)
 else
  if J5 then
   some 1
  else
   if decide ((x1.toNat:Int) < (y1.toNat:Int)) then
    some (-1)
   else
    if decide ((y1.toNat:Int) < (x1.toNat:Int)) then
     some 1
    else
     some 0
def iW :Nat→Str→Str→Option Int
 | 0,_,_=>none
 | dQ + 1,a2,b2=>
  if (!(a2 == ([]:Str))) && (!(b2 == ([]:Str))) then
   ay (zI a2) fun n1=>
   ay (zI b2) fun m1=>
   if (decide (0 < n1)) && (decide (0 < m1)) then
    ay (sl a2 0 n1) fun x1=>
    ay (sl b2 0 m1) fun x2=>
    ay (tK x1 x2) fun c1=>
    if c1 != 0 then
     some c1
    else
     ay (sl a2 n1 (a2.length:Int)) fun a3=>
     ay (sl b2 m1 (b2.length:Int)) fun b3=>
     iW dQ a3 b3
   else
    ay (idx a2 0) fun x3=>
    ay (idx b2 0) fun x4=>
    if (x3.toNat:Int) != (x4.toNat:Int) then
     ay (idx a2 0) fun x5=>
     ay (idx b2 0) fun x6=>
     o9 x5 x6
    else
     ay (sl a2 1 (a2.length:Int)) fun a4=>
     ay (sl b2 1 (b2.length:Int)) fun b4=>
     iW dQ a4 b4
  else
   cmp_Compare_int (a2.length:Int) (b2.length:Int)
def ow (a1:Str) (b1:Str):Option Int:=
 iW BIG a1 b1
def oI (v1:av):Nat→Int→Option Bool
 | 0,_=>none
 | dQ + 1,i1=>
  if decide (i1 < (v1.keys.length:Int)) then
   ay (idx v1.keys i1) fun yw=>
   ay (
     if (decide ((yw.length:Int) < 1)) || (decide (64 < (yw.length:Int))) then
      some true
     else
      if decide (0 < i1) then
       ay (idx v1.keys (bL (i1 - 1))) fun e1=>
       ay (ow e1 yw) fun x1=>
       some (decide (0≤x1))
      else
       some false) fun b1=>
   if b1 then
    some false
   else
    oI v1 dQ (bL (i1 + 1))
  else
   some true
def xu (v1:av):Option Bool:=
 if (v1.keys.length:Int) != (v1.dh.length:Int) then
  some false
 else
  oI v1 BIG 0
def zR (v1:av) (bG:Int):Option Int:=
 if decide (16 < bG) then
  some 13
 else
  ay (
    if (decide (v1.kind < 0)) || (decide (5 < v1.kind)) then
     some true
    else
     ay (yR v1) fun x1=>
     some (!x1)) fun b1=>
  if b1 then
   some 1
  else
   if (decide (v1.mZ < (-9007199254740992))) || (decide (9007199254740992 < v1.mZ)) then
    some 2
   else
    if ((decide (4096 < (v1.pF.length:Int))) || (decide (1024 < (v1.dh.length:Int)))) || (decide (1024 < (v1.keys.length:Int))) then
     some 3
    else
     ay (
       if v1.kind == 5 then
        ay (xu v1) fun x2=>
        some (!x2)
       else
        some false) fun b2=>
     if b2 then
      some 1
     else
      if (((v1.kind == 4) || (v1.kind == 5)) && ((v1.dh.length:Int) == 0)) && (bG == 16) then
       some 13
      else
       some 0
def kU (s1:Option Int) (bG:Int) (x1:av):Option (Bool × Option Int):=
 match s1 with
 | some _=>none
 | none=>
  ay (zR x1 bG) fun e1=>
  if !(e1 == 0) then
   some (false,some e1)
  else
   some (true,none)
def nE (v1:av):Option Int:=
 dX (Gp kU none v1 1) fun _ s1=>
 some (s1.getD 0)
def mJ (l1:List Str):Nat→Int→List (Str × Int)→Option Bool
 | 0,_,_=>none
 | dQ + 1,x1,y1=>
  if decide (x1 < (l1.length:Int)) then
   ay (idx l1 x1) fun s1=>
   if decide (1 < (oD (qH y1 s1 (bL ((oD y1 s1) + 1))) s1)) then
    some true
   else
    mJ l1 dQ (bL (x1 + 1)) (qH y1 s1 (bL ((oD y1 s1) + 1)))
  else
   some false
def qc (l1:List Str):Option Bool:=
 mJ l1 BIG 0 []
def xL (e1:ah) (bG:Int):Option Int:=
 if decide (16 < bG) then
  some 13
 else
  ay (
    if (decide (e1.kind < 1)) || (decide (10 < e1.kind)) then
     some true
    else
     if e1.kind != 1 then
      ay (Bn e1.value) fun x1=>
      some (!x1)
     else
      some false) fun b1=>
  ay (
    if b1 then
     some true
    else
     ay (vE e1) fun x2=>
     some (!x2)) fun b3=>
  ay (
    if b3 then
     some true
    else
     ay (vG e1) fun x3=>
     some (!x3)) fun b4=>
  ay (
    if b4 then
     some true
    else
     ay (vF e1) fun x4=>
     some (!x4)) fun b5=>
  if b5 then
   some 1
  else
   ay (
     if e1.kind == 1 then
      ay (nE e1.value) fun x5=>
      some (x5 != 0)
     else
      some false) fun b6=>
   if b6 then
    nE e1.value
   else
    if decide (1024 < (e1.args.length:Int)) then
     some 3
    else
     ay (qc e1.keys) fun x7=>
     if x7 then
      some 7
     else
      some 0
def qb (jF:ah→Int→Option Int) (e1:ah) (bG:Int):Nat→Int→Option Int
 | 0,_=>none
 | dQ + 1,x1=>
  if decide (x1 < (e1.args.length:Int)) then
   ay (idx e1.args x1) fun e2=>
   ay (jF e2 (bL (bG + 1))) fun f2=>
   if f2 != 0 then
    some f2
   else
    qb jF e1 bG dQ (bL (x1 + 1))
  else
   some 0
def vD (jF:ah→Int→Option Int) (e1:ah) (bG:Int):Option Int:=
 ay (xL e1 bG) fun f1=>
 if f1 != 0 then
  some f1
 else
  qb jF e1 bG BIG 0
def mI :Nat→ah→Int→Option Int
 | 0,_,_=>none
 | k + 1,iF,b_=>vD (mI k) iF b_
def Dm (iF:ah) (b_:Int):Option Int:=mI BIG iF b_
def jB (e1:ah):Option Int:=
 ay (yY e1) fun x1=>
 if decide (4096 < x1) then
  some 15
 else
  Dm e1 1
def xM (eH:List aA):Option (ah × Int × Int):=
 j_ (Bo eH) fun x1 n1 o8=>
 if o8 != 0 then
  some ((ah.mk 0 ([]:Str) (av.mk 0 false 0 ([]:Str) [] []) [] []),n1,o8)
 else
  ay (jB x1) fun CR=>
  if CR != 0 then
   some ((ah.mk 0 ([]:Str) (av.mk 0 false 0 ([]:Str) [] []) [] []),0,CR)
  else
   some (x1,n1,0)
def yX (eH:List aA) (n1:Int) (aZ:Str):Option Int:=
 if decide (n1 < (eH.length:Int)) then
  ay (idx eH n1) fun e1=>
  some e1.at_
 else
  some (aZ.length:Int)
def vH (aZ:Str):Option (ah × Int × Int):=
 j_ (lT aZ) fun eH bK o8=>
 if o8 != 0 then
  some ((ah.mk 0 ([]:Str) (av.mk 0 false 0 ([]:Str) [] []) [] []),bK,o8)
 else
  j_ (xM eH) fun x1 n1 CR=>
  if CR != 0 then
   ay (yX eH n1 aZ) fun x2=>
   some ((ah.mk 0 ([]:Str) (av.mk 0 false 0 ([]:Str) [] []) [] []),x2,CR)
  else
   if decide (n1 < (eH.length:Int)) then
    ay (idx eH n1) fun e1=>
    some ((ah.mk 0 ([]:Str) (av.mk 0 false 0 ([]:Str) [] []) [] []),e1.at_,5)
   else
    some (x1,0,0)
def jQ (jh:List aK) (text1:Str):Option (List aK):=
 if decide (0 < (text1.length:Int)) then app jh [(aK.mk text1 false (ah.mk 0 ([]:Str) (av.mk 0 false 0 ([]:Str) [] []) [] []))] else some jh
def jE (s1:Str):Nat→Int→List aK→Str→Option (List aK × Int × Int)
 | 0,_,_,_=>none
 | dQ + 1,bK,jh,text1=>
  if decide (bK < (s1.length:Int)) then
   ay (sl s1 bK (s1.length:Int)) fun HV=>
   ay (strings_HasPrefix HV ([36,36]:Str)) fun b1=>
   if b1 then
    ay (app text1 [36]) fun RB=>
    jE s1 dQ (bL (bK + 2)) jh RB
   else
    ay (strings_HasPrefix HV ([36,123]:Str)) fun b2=>
    if b2 then
     ay (vP s1 (bL (bK + 2))) fun ql=>
     if decide (ql < 0) then
      some ([],bK,4)
     else
      ay (sl s1 (bL (bK + 2)) ql) fun x1=>
      j_ (vH x1) fun e1 n1 o8=>
      if o8 != 0 then
       some ([],(bL ((bL (bK + 2)) + n1)),o8)
      else
       ay (jQ jh text1) fun Qk=>
       ay (app Qk [(aK.mk ([]:Str) true e1)]) fun Qj=>
       jE s1 dQ (bL (ql + 1)) Qj []
    else
     ay (idx s1 bK) fun c1=>
     ay (app text1 [c1]) fun YQ=>
     jE s1 dQ (bL (bK + 1)) jh YQ
  else
   ay (jQ jh text1) fun Vr=>
   some (Vr,0,0)
def lU (s1:Str):Option (List aK × Int × Int):=
 if decide (4096 < (s1.length:Int)) then
  some ([],0,3)
 else
  jE s1 BIG 0 [] []
def Bw (bM:List bT):Nat→Int→List (Str × Int)→Option Int
 | 0,_,_=>none
 | dQ + 1,x1,y1=>
  if decide (x1 < (bM.length:Int)) then
   ay (idx bM x1) fun e1=>
   ay (jB (ah.mk 2 e1.name (av.mk 0 false 0 ([]:Str) [] []) [] [])) fun x2=>
   if x2 != 0 then
    some 1
   else
    ay (nE e1.value) fun e2=>
    if e2 != 0 then
     some e2
    else
     if decide (1 < (oD (qH y1 e1.name (bL ((oD y1 e1.name) + 1))) e1.name)) then
      some 7
     else
      Bw bM dQ (bL (x1 + 1)) (qH y1 e1.name (bL ((oD y1 e1.name) + 1)))
  else
   some 0
def IQ (bM:List bT):Option Int:=
 if decide (1024 < (bM.length:Int)) then
  some 3
 else
  Bw bM BIG 0 []
def ET (e1:ah) (bM:List bT):Option (List bT × Int):=
 ay (IQ bM) fun f1=>
 if f1 != 0 then
  some ([],f1)
 else
  ay (jB e1) fun f2=>
  if f2 != 0 then
   some ([],f2)
  else
   some (bM,0)
def pW (s1:List bT) (name1:Str):Nat→Int→Option (gT bq av)
 | 0,_=>none
 | dQ + 1,x1=>
  if decide (x1 < (s1.length:Int)) then
   ay (idx s1 x1) fun e1=>
   if e1.name == name1 then
    some (.ok e1.value)
   else
    pW s1 name1 dQ (bL (x1 + 1))
  else
   none
def yF (s1:List bT) (name1:Str):Option (gT bq av):=
 pW s1 name1 BIG 0
def CO (a1:av) (b1:av) (yw:Int):Option Bool:=
 some ((a1.kind == yw) && (b1.kind == yw))
def zL (ok1:Bool) (e1:Int):Option (gT bq Unit):=
 if !ok1 then
  none
 else
  some (.ok ())
def Dw (n1:Int):Option av:=
 some (av.mk 2 false n1 ([]:Str) [] [])
def ES (n1:Int):Option (gT bq av):=
 yh (zL ((decide ((-9007199254740992)≤n1)) && (decide (n1≤9007199254740992))) 11) (fun e1=>some (.bad e1)) fun _=>
 ay (Dw n1) fun x1=>
 some (.ok x1)
def MR (a1:av) (b1:av):Option (gT bq av):=
 ay (CO a1 b1 2) fun x1=>
 if x1 then
  yh (ES (bL (a1.mZ + b1.mZ))) (fun e1=>some (.bad e1)) fun x2=>
  some (.ok x2)
 else
  ay (CO a1 b1 3) fun x3=>
  if x3 then
   yh (zL (decide ((bL ((a1.pF.length:Int) + (b1.pF.length:Int)))≤4096)) 3) (fun e2=>some (.bad e2)) fun _=>
   none
  else
   ay (CO a1 b1 4) fun x4=>
   yh (zL x4 9) (fun e3=>some (.bad e3)) fun _=>
   yh (zL (decide ((bL ((a1.dh.length:Int) + (b1.dh.length:Int)))≤1024)) 3) (fun e4=>some (.bad e4)) fun _=>
   ay (app [] a1.dh) fun l1=>
   none
def vW (eG:List bT→ah→Option (gT bq av)) (eY:List bT→ah→Option (gT bq av)) (s1:List bT) (e1:ah):Option (gT bq av):=
 if e1.kind == 1 then
  some (.ok e1.value)
 else
  if e1.kind == 2 then
   yh (yF s1 e1.name) (fun e2=>some (.bad e2)) fun x1=>
   some (.ok x1)
  else
   if e1.kind == 3 then
    none
   else
    if e1.kind == 4 then
     ay (idx e1.args 0) fun e3=>
     yh (eG s1 e3) (fun e4=>some (.bad e4)) fun x2=>
     none
    else
     if e1.kind == 5 then
      none
     else
      if e1.kind == 6 then
       none
      else
       if e1.kind == 7 then
        yh (eY s1 e1) (fun e5=>some (.bad e5)) fun x3=>
        some (.ok x3)
       else
        if e1.kind == 8 then
         none
        else
         if e1.kind == 9 then
          none
         else
          none
def sO (eG:List bT→ah→Option (gT bq av)) (eY:List bT→ah→Option (gT bq av)) (s1:List bT) (e1:ah):Option (gT bq av):=
 ay (idx e1.args 0) fun e2=>
 yh (eG s1 e2) (fun e3=>some (.bad e3)) fun x1=>
 if (e1.name == ([38,38]:Str)) || (e1.name == ([124,124]:Str)) then
  none
 else
  ay (idx e1.args 1) fun e4=>
  yh (eG s1 e4) (fun e5=>some (.bad e5)) fun x2=>
  if e1.name == ([61,61]:Str) then
   none
  else
   if e1.name == ([33,61]:Str) then
    none
   else
    if e1.name == ([60]:Str) then
     none
    else
     if e1.name == ([60,61]:Str) then
      none
     else
      if e1.name == ([62]:Str) then
       none
      else
       if e1.name == ([62,61]:Str) then
        none
       else
        if e1.name == ([43]:Str) then
         yh (MR x1 x2) (fun e6=>some (.bad e6)) fun x3=>
         some (.ok x3)
        else
         none
mutual
def j4 :Nat→List bT→ah→Option (gT bq av)
 | 0,_,_=>none
 | k + 1,BZ,iF=>vW (j4 k) (jf k) BZ iF
def jf :Nat→List bT→ah→Option (gT bq av)
 | 0,_,_=>none
 | k + 1,BZ,iF=>sO (j4 k) (jf k) BZ iF
end
def D7 (BZ:List bT) (iF:ah):Option (gT bq av):=j4 BIG BZ iF
def IL (BZ:List bT) (iF:ah):Option (gT bq av):=jf BIG BZ iF
def Ay (s1:List bT) (e1:ah):Option (av × Int):=
 yh (D7 s1 e1) (fun f1=>some ((av.mk 0 false 0 ([]:Str) [] []),f1.code)) fun v1=>
 some (v1,0)
def xk (kV:av→Option av) (v1:av):Nat→Int→av→Option av
 | 0,_,_=>none
 | dQ + 1,x1,dx=>
  if decide (x1 < (v1.dh.length:Int)) then
   ay (idx v1.dh x1) fun e1=>
   ay (kV e1) fun x2=>
   ay (app dx.dh [x2]) fun x3=>
   xk kV v1 dQ (bL (x1 + 1)) (av.mk dx.kind dx.lJ dx.mZ dx.pF x3 dx.keys)
  else
   ay (app dx.keys v1.keys) fun x4=>
   some (av.mk dx.kind dx.lJ dx.mZ dx.pF dx.dh x4)
def Dy (kV:av→Option av) (v1:av):Option av:=
 xk kV v1 BIG 0 (av.mk v1.kind v1.lJ v1.mZ v1.pF [] [])
def Dx :Nat→av→Option av
 | 0,_=>none
 | k + 1,pI=>Dy (Dx k) pI
def MS (pI:av):Option av:=Dx BIG pI
def JC (e1:ah) (bM:List bT):Option (av × Int):=
 dX (ET e1 bM) fun s1 f1=>
 if f1 != 0 then
  some ((av.mk 0 false 0 ([]:Str) [] []),f1)
 else
  dX (Ay s1 e1) fun x1 f2=>
  ay (MS x1) fun x2=>
  some (x2,f2)
def rR (iX:av→Option Str) (v1:av):Nat→List Str→Int→Option Str
 | 0,_,_=>none
 | dQ + 1,aeY,i1=>
  if decide (i1 < (v1.dh.length:Int)) then
   ay (idx v1.dh i1) fun e1=>
   if v1.kind == 5 then
    none
   else
    ay (iX e1) fun x2=>
    ay (app aeY ([x2]:List Str)) fun aeX=>
    rR iX v1 dQ aeX (bL (i1 + 1))
  else
   none
def wG (v1:av):Nat→List Str→Int→Option Str
 | 0,_,_=>none
 | Ul + 1,aiv,i2=>
  if decide (i2 < (v1.dh.length:Int)) then
   ay (idx v1.dh i2) fun e2=>
   none
  else
   none
def yA (iX:av→Option Str) (v1:av):Option Str:=
 if v1.kind == 1 then
  none
 else
  if v1.kind == 2 then
   strconv_Itoa v1.mZ
  else
   if v1.kind == 3 then
    none
   else
    if v1.kind == 4 then
     rR iX v1 BIG [] 0
    else
     if v1.kind == 5 then
      wG v1 BIG [] 0
     else
      some ([110,117,108,108]:Str)
def yx :Nat→av→Option Str
 | 0,_=>none
 | k + 1,pI=>yA (yx k) pI
def F5 (pI:av):Option Str:=yx BIG pI
def Gq (v1:av):Option (Str × Int):=
 if (v1.kind == 4) || (v1.kind == 5) then
  some (([]:Str),9)
 else
  ay (nE v1) fun e1=>
  if e1 != 0 then
   some (([]:Str),e1)
  else
   if v1.kind == 0 then
    some (([]:Str),0)
   else
    if v1.kind == 3 then
     some (v1.pF,0)
    else
     ay (F5 v1) fun x1=>
     some (x1,0)
def yE (p1:aK) (bM:List bT):Option (Str × Int):=
 if !p1.EM then
  some (p1.text,0)
 else
  dX (JC p1.expr bM) fun x1 o8=>
  if o8 != 0 then
   some (([]:Str),o8)
  else
   Gq x1
def wQ (bM:List bT) (ps1:List aK):Nat→Int→Str→Option (Str × Int)
 | 0,_,_=>none
 | dQ + 1,x2,b1=>
  if decide (x2 < (ps1.length:Int)) then
   ay (idx ps1 x2) fun e1=>
   dX (yE e1 bM) fun t1 VT=>
   if VT != 0 then
    some (([]:Str),VT)
   else
    ay (app b1 t1) fun b2=>
    wQ bM ps1 dQ (bL (x2 + 1)) b2
  else
   if decide (4096 < (b1.length:Int)) then
    some (([]:Str),3)
   else
    some (b1,0)
def BO (s1:Str) (bM:List bT):Option (Str × Int):=
 j_ (lU s1) fun ps1 x1 o8=>
 if o8 != 0 then
  some (([]:Str),o8)
 else
  ay (IQ bM) fun CR=>
  if CR != 0 then
   some (([]:Str),CR)
  else
   wQ bM ps1 BIG 0 []
def iA {β:Type} (y:β→ah→Option (Bool × β)) (ps1:List aK):Nat→β→Int→Option β
 | 0,_,_=>none
 | dQ + 1,s1,i1=>
  if decide (i1 < (ps1.length:Int)) then
   ay (idx ps1 i1) fun p1=>
   if p1.EM then
    dX (y s1 p1.expr) fun b1 s2=>
    if !b1 then
     some s2
    else
     iA y ps1 dQ s2 (bL (i1 + 1))
   else
    iA y ps1 dQ s1 (bL (i1 + 1))
  else
   some s1
def jJ {β:Type} (y:β→ah→Option (Bool × β)) (s1:β) (ps1:List aK):Option β:=iA y ps1 BIG s1 0
def vR (kF:List Str):Option (List Str):=
 if (kF.all fun s=>decide (s.length < 4611686018427387904)) && decide (kF.length≤uU) then some (uD kF) else none
def kS (go:ah→List Str→Option (List Str)) (e1:ah):Nat→List Str→Int→Option (List Str)
 | 0,_,_=>none
 | dQ + 1,dx,i1=>
  if decide (i1 < (e1.args.length:Int)) then
   ay (idx e1.args i1) fun a1=>
   ay (go a1 dx) fun wE=>
   kS go e1 dQ wE (bL (i1 + 1))
  else
   some dx
def ug (go:ah→List Str→Option (List Str)) (e1:ah) (dx:List Str):Option (List Str):=
 if e1.kind == 2 then
  ay (app dx [e1.name]) fun wE=>
  kS go e1 BIG wE 0
 else
  kS go e1 BIG dx 0
def jH :Nat→ah→List Str→Option (List Str)
 | 0,_,_=>none
 | k + 1,e1,dx=>ug (jH k) e1 dx
def xZ (e1:ah):Option (List Str):=
 ay (jH BIG e1 []) fun dx=>
 vR dx
def jy (a1:List ah) (x1:ah):Option (Bool × List ah):=
 ay (app a1 [x1]) fun a2=>
 some (true,a2)
def su (s1:Str):Option (List Str × Int):=
 j_ (lU s1) fun ps1 _ o8=>
 if o8 != 0 then
  some ([],o8)
 else
  ay (jJ jy [] ps1) fun a1=>
  ay (xZ (ah.mk 9 ([]:Str) (av.mk 0 false 0 ([]:Str) [] []) a1 [])) fun x1=>
  some (x1,0)
def aes (v1:av):Option Str:=
 ay (nE v1) fun x1=>
 if x1 != 0 then
  some ([]:Str)
 else
  F5 v1
def ac2 (e1:ah):Option Int:=
 if e1.kind == 8 then
  some 1
 else
  if e1.kind == 7 then
   gF e1.name
  else
   if e1.kind == 6 then
    some 7
   else
    if ((e1.kind == 1) && (e1.value.kind == 2)) && (decide (e1.value.mZ < 0)) then
     some 7
    else
     some 8
def abC (abb:ah→Option Str) (aa2:ah→Int→Option Str) (e1:ah):Option Str:=
 if e1.kind == 1 then
  aes e1.value
 else
  if e1.kind == 2 then
   some e1.name
  else
   if e1.kind == 3 then
    ay (idx e1.args 0) fun e2=>
    ay (aa2 e2 8) fun x2=>
    ay (app x2 ([46]:Str)) fun x3=>
    app x3 e1.name
   else
    if e1.kind == 4 then
     ay (idx e1.args 0) fun e3=>
     ay (aa2 e3 8) fun x5=>
     ay (app x5 ([91]:Str)) fun x6=>
     ay (idx e1.args 1) fun e4=>
     ay (aa2 e4 1) fun x7=>
     ay (app x6 x7) fun x8=>
     app x8 ([93]:Str)
    else
     if e1.kind == 5 then
      none
     else
      if e1.kind == 6 then
       ay (idx e1.args 0) fun e5=>
       ay (aa2 e5 7) fun KQ=>
       app e1.name KQ
      else
       if e1.kind == 7 then
        ay (gF e1.name) fun n1=>
        if n1 == 4 then
         ay (idx e1.args 0) fun e6=>
         ay (aa2 e6 (bL (n1 + 1))) fun Rl=>
         ay (app Rl ([32]:Str)) fun Wt=>
         ay (app Wt e1.name) fun x14=>
         ay (app x14 ([32]:Str)) fun Ws=>
         ay (idx e1.args 1) fun e7=>
         ay (aa2 e7 (bL (n1 + 1))) fun PN=>
         app Ws PN
        else
         ay (idx e1.args 0) fun e8=>
         ay (aa2 e8 n1) fun x18=>
         ay (app x18 ([32]:Str)) fun x19=>
         ay (app x19 e1.name) fun x20=>
         ay (app x20 ([32]:Str)) fun x21=>
         ay (idx e1.args 1) fun e9=>
         ay (aa2 e9 (bL (n1 + 1))) fun x22=>
         app x21 x22
       else
        if e1.kind == 8 then
         ay (idx e1.args 0) fun e10=>
         ay (aa2 e10 2) fun x24=>
         ay (app x24 ([32,63,32]:Str)) fun x25=>
         ay (idx e1.args 1) fun e11=>
         ay (aa2 e11 1) fun x26=>
         ay (app x25 x26) fun x27=>
         ay (app x27 ([32,58,32]:Str)) fun x28=>
         ay (idx e1.args 2) fun e12=>
         ay (aa2 e12 1) fun x29=>
         app x28 x29
        else
         if e1.kind == 9 then
          none
         else
          none
def ac3 (abb:ah→Option Str) (aa2:ah→Int→Option Str) (e1:ah) (adv:Int):Option Str:=
 ay (ac2 e1) fun x1=>
 if decide (x1 < adv) then
  ay (abb e1) fun x2=>
  ay (app ([40]:Str) x2) fun x3=>
  app x3 ([41]:Str)
 else
  abb e1
mutual
def abB :Nat→ah→Option Str
 | 0,_=>none
 | k + 1,iF=>abC (abB k) (ab2 k) iF
def ab2 :Nat→ah→Int→Option Str
 | 0,_,_=>none
 | k + 1,iF,aa3=>ac3 (abB k) (ab2 k) iF aa3
end
def adw (iF:ah):Option Str:=abB BIG iF
def afV (iF:ah) (aa3:Int):Option Str:=ab2 BIG iF aa3
def ado (e1:ah):Option Str:=
 ay (jB e1) fun x1=>
 if x1 != 0 then
  some ([]:Str)
 else
  adw e1
def strings_ReplaceAll (s1:Str) (ahu:Str) (new1:Str):Option Str:=
 if s1.length < 4294967281∧ahu=[36]∧new1=[36,36] then some (s1.flatMap fun x=>if x == 36 then [36,36] else [x]) else none
def Ar (ps1:List aK):Nat→Int→Str→Option Str
 | 0,_,_=>none
 | dQ + 1,x1,b1=>
  if decide (x1 < (ps1.length:Int)) then
   ay (idx ps1 x1) fun e1=>
   if e1.EM then
    ay (ado e1.expr) fun x2=>
    ay (app ([36,123]:Str) x2) fun x3=>
    ay (app x3 ([125]:Str)) fun x4=>
    ay (app b1 x4) fun b2=>
    Ar ps1 dQ (bL (x1 + 1)) b2
   else
    ay (strings_ReplaceAll e1.text ([36]:Str) ([36,36]:Str)) fun x5=>
    ay (app b1 x5) fun b3=>
    Ar ps1 dQ (bL (x1 + 1)) b3
  else
   some b1
def EN (ps1:List aK):Option Str:=
 Ar ps1 BIG 0 []
def uI (dB:Int):Option Str:=
 if (decide (dB < 0)) || (decide (8≤dB)) then
  some ([]:Str)
 else
  idx ([([97,110,121]:Str),([110,117,108,108]:Str),([98,111,111,108]:Str),([105,110,116]:Str),([115,116,114,105,110,103]:Str),([108,105,115,116]:Str),([109,97,112]:Str),([110,101,118,101,114]:Str)]:List Str) dB
def gN (dB:Int):Option Bool:=
 some ((dB == 5) || (dB == 6))
def jA :Nat→Int→au→Option Int
 | 0,_,_=>none
 | dQ + 1,bG,t2=>
  if decide (16 < bG) then
   some 13
  else
   ay (uI t2.kind) fun x1=>
   ay (
     if x1 == ([]:Str) then
      some true
     else
      ay (gN t2.kind) fun x2=>
      some (x2 && ((t2.elem.length:Int) != 1))) fun b1=>
   ay (
     if b1 then
      some true
     else
      ay (gN t2.kind) fun x3=>
      some ((!x3) && ((t2.elem.length:Int) != 0))) fun b2=>
   if b2 then
    some 1
   else
    ay (gN t2.kind) fun x4=>
    if !x4 then
     some 0
    else
     ay (idx t2.elem 0) fun e1=>
     jA dQ (bL (bG + 1)) e1
def iT (t1:au):Option Int:=
 jA BIG 1 t1
def wo (bM:List aO):Nat→Int→List (Str × Int)→Option Int
 | 0,_,_=>none
 | dQ + 1,x1,y1=>
  if decide (x1 < (bM.length:Int)) then
   ay (idx bM x1) fun e1=>
   ay (jB (ah.mk 2 e1.name (av.mk 0 false 0 ([]:Str) [] []) [] [])) fun x2=>
   if x2 != 0 then
    some 1
   else
    ay (iT e1.nG) fun e2=>
    if e2 != 0 then
     some e2
    else
     if decide (1 < (oD (qH y1 e1.name (bL ((oD y1 e1.name) + 1))) e1.name)) then
      some 7
     else
      wo bM dQ (bL (x1 + 1)) (qH y1 e1.name (bL ((oD y1 e1.name) + 1)))
  else
   some 0
def zM (bM:List aO):Option Int:=
 if decide (1024 < (bM.length:Int)) then
  some 3
 else
  wo bM BIG 0 []
def dF (dB:Int):Option au:=
 some (au.mk dB [])
def j5 (dB:Int) (kE:au):Option au:=
 some (au.mk dB [kE])
def h_ (name1:Str):Option (List (List au) × au):=
 ay (dF 0) fun x1=>
 ay (dF 3) fun x2=>
 ay (dF 4) fun x3=>
 ay (dF 2) fun x4=>
 ay (j5 5 x1) fun x5=>
 ay (j5 6 x1) fun x6=>
 ay (j5 5 x3) fun x7=>
 if name1 == ([108,101,110]:Str) then
  some ([[x3],[x5],[x6]],x2)
 else
  if name1 == ([99,111,110,116,97,105,110,115]:Str) then
   some ([[x5,x1],[x3,x3],[x6,x3]],x4)
  else
   if name1 == ([106,111,105,110]:Str) then
    some ([[x7,x3]],x3)
   else
    if name1 == ([115,116,114,105,110,103]:Str) then
     ay (dF 1) fun x8=>
     some ([[x8],[x4],[x2],[x3]],x3)
    else
     if name1 == ([108,111,119,101,114]:Str) then
      some ([[x3]],x3)
     else
      if name1 == ([117,112,112,101,114]:Str) then
       some ([[x3]],x3)
      else
       if name1 == ([115,112,108,105,116]:Str) then
        some ([[x3,x3]],x7)
       else
        if name1 == ([115,116,97,114,116,115,119,105,116,104]:Str) then
         some ([[x3,x3]],x4)
        else
         if name1 == ([101,110,100,115,119,105,116,104]:Str) then
          some ([[x3,x3]],x4)
         else
          if name1 == ([105,110,116]:Str) then
           some ([[x3]],x2)
          else
           if name1 == ([100,101,102,97,117,108,116]:Str) then
            some ([[x1,x1]],x1)
           else
            if name1 == ([107,101,121,115]:Str) then
             some ([[x6]],x7)
            else
             some ([],x1)
def dN (t1:au):Option Bool:=
 some ((t1.kind == 0) || (t1.kind == 7))
def jK (oG:au→au→Option Bool) (t1:au) (u1:au):Option Bool:=
 ay (dN t1) fun x1=>
 if x1 || (u1.kind == 0) then
  some true
 else
  if t1.kind != u1.kind then
   some false
  else
   if ((t1.elem.length:Int) == 1) && ((u1.elem.length:Int) == 1) then
    ay (idx t1.elem 0) fun e1=>
    ay (idx u1.elem 0) fun e2=>
    oG e1 e2
   else
    some true
def iQ :Nat→au→au→Option Bool
 | 0,_,_=>none
 | k + 1,um,Gs=>jK (iQ k) um Gs
def gL (um:au) (Gs:au):Option Bool:=iQ BIG um Gs
def pq (eH:List au) (yJ:List au):Nat→Int→Option Bool
 | 0,_=>none
 | dQ + 1,i1=>
  if decide (i1 < (yJ.length:Int)) then
   ay (idx eH i1) fun e1=>
   ay (idx yJ i1) fun e2=>
   ay (gL e1 e2) fun x1=>
   if !x1 then
    some false
   else
    pq eH yJ dQ (bL (i1 + 1))
  else
   some true
def nS (eH:List au) (yJ:List au):Option Bool:=
 pq eH yJ BIG 0
def dY (dB:Int):Option au:=
 some (au.mk dB [])
def mq (dB:Int) (kE:au):Option au:=
 some (au.mk dB [kE])
def qN (uf:au→Option au) (t1:au):Option au:=
 ay (gN t1.kind) fun x1=>
 if !x1 then
  dY t1.kind
 else
  ay (idx t1.elem 0) fun e1=>
  ay (uf e1) fun x3=>
  mq t1.kind x3
def oJ :Nat→au→Option au
 | 0,_=>none
 | k + 1,um=>qN (oJ k) um
def yS (um:au):Option au:=oJ BIG um
def nX (vT:au→au→Option au) (a1:au) (b1:au):Option au:=
 if a1.kind == 7 then
  yS b1
 else
  if b1.kind == 7 then
   yS a1
  else
   if a1.kind != b1.kind then
    dY 0
   else
    ay (gN a1.kind) fun x4=>
    if x4 then
     ay (idx a1.elem 0) fun e1=>
     ay (idx b1.elem 0) fun e2=>
     ay (vT e1 e2) fun x5=>
     mq a1.kind x5
    else
     dY a1.kind
def l7 :Nat→au→au→Option au
 | 0,_,_=>none
 | k + 1,zX,zW=>nX (l7 k) zX zW
def xA (zX:au) (zW:au):Option au:=l7 BIG zX zW
def qM (jZ:av→Option au) (v1:av):Nat→Int→au→Option au
 | 0,_,_=>none
 | dQ + 1,x6,kE=>
  if decide (x6 < (v1.dh.length:Int)) then
   ay (idx v1.dh x6) fun e1=>
   ay (jZ e1) fun x7=>
   ay (xA kE x7) fun x8=>
   qM jZ v1 dQ (bL (x6 + 1)) x8
  else
   if v1.kind == 4 then
    mq 5 kE
   else
    mq 6 kE
def wW (jZ:av→Option au) (v1:av):Option au:=
 if v1.kind == 0 then
  dY 1
 else
  if v1.kind == 1 then
   dY 2
  else
   if v1.kind == 2 then
    dY 3
   else
    if v1.kind == 3 then
     dY 4
    else
     ay (dY 7) fun x5=>
     qM jZ v1 BIG 0 x5
def nY :Nat→av→Option au
 | 0,_=>none
 | k + 1,pI=>wW (nY k) pI
def Em (pI:av):Option au:=nY BIG pI
def B_ (v1:av):Option au:=
 ay (nE v1) fun x1=>
 if x1 != 0 then
  dY 0
 else
  Em v1
def nU (bM:List aO) (name1:Str):Nat→Int→Option (au × Int)
 | 0,_=>none
 | dQ + 1,x1=>
  if decide (x1 < (bM.length:Int)) then
   ay (idx bM x1) fun e1=>
   if e1.name == name1 then
    some (e1.nG,0)
   else
    nU bM name1 dQ (bL (x1 + 1))
  else
   some ((au.mk 0 []),10)
def rO (bM:List aO) (name1:Str):Option (au × Int):=
 nU bM name1 BIG 0
def wh (t1:au):Option (au × Int):=
 ay (dN t1) fun x1=>
 if x1 then
  some (t1,0)
 else
  if t1.kind == 6 then
   ay (idx t1.elem 0) fun e1=>
   some (e1,0)
  else
   some ((au.mk 0 []),9)
def xY (t1:au) (i1:au):Option (au × Int):=
 ay (dF 3) fun x1=>
 ay (gL i1 x1) fun Vv=>
 ay (dF 4) fun x2=>
 ay (gL i1 x2) fun text1=>
 if (t1.kind == 5) && Vv then
  ay (idx t1.elem 0) fun e1=>
  some (e1,0)
 else
  if (t1.kind == 6) && text1 then
   ay (idx t1.elem 0) fun e2=>
   some (e2,0)
  else
   ay (dN t1) fun x3=>
   if x3 && (Vv || text1) then
    some (t1,0)
   else
    some ((au.mk 0 []),9)
def xX (op1:Str) (t1:au):Option (au × Int):=
 ay (dF 3) fun x1=>
 if op1 == ([33]:Str) then
  ay (dF 2) fun x2=>
  ay (gL t1 x2) fun x3=>
  if !x3 then
   some ((au.mk 0 []),9)
  else
   some (x2,0)
 else
  ay (gL t1 x1) fun x4=>
  if !x4 then
   some ((au.mk 0 []),9)
  else
   some (x1,0)
def g_ (dB:Int) (c1:au) (c2:au):Option Bool:=
 ay (dF dB) fun x1=>
 ay (gL c1 x1) fun x2=>
 if x2 then
  ay (dF dB) fun x3=>
  gL c2 x3
 else
  some false
def fO (a1:au) (b1:au) (dB:Int):Option Bool:=
 ay (dN a1) fun x1=>
 ay (
   if x1 || (a1.kind == dB) then
    ay (dN b1) fun x2=>
    some (x2 || (b1.kind == dB))
   else
    some false) fun b2=>
 some (b2 && ((a1.kind == dB) || (b1.kind == dB)))
def qx (t1:au):Option au:=
 ay (dN t1) fun x1=>
 if x1 then
  some t1
 else
  idx t1.elem 0
def A9 (a1:au) (b1:au):Option Bool:=
 ay (iT a1) fun x1=>
 if x1 == 0 then
  ay (iT b1) fun x2=>
  some (x2 == 0)
 else
  some false
def kC (a1:au) (b1:au):Option au:=
 ay (A9 a1 b1) fun x1=>
 if !x1 then
  dY 0
 else
  xA a1 b1
def CS (a1:au) (b1:au):Option (au × Int):=
 ay (dN a1) fun x1=>
 ay (
   if x1 then
    dN b1
   else
    some false) fun b2=>
 if b2 then
  if (a1.kind == 0) || (b1.kind == 0) then
   ay (dF 0) fun x3=>
   some (x3,0)
  else
   ay (dF 7) fun x4=>
   some (x4,0)
 else
  ay (fO a1 b1 3) fun x5=>
  if x5 then
   ay (dF 3) fun x6=>
   some (x6,0)
  else
   ay (fO a1 b1 4) fun x7=>
   if x7 then
    ay (dF 4) fun x8=>
    some (x8,0)
   else
    ay (fO a1 b1 5) fun x9=>
    if x9 then
     ay (qx a1) fun KQ=>
     ay (qx b1) fun PO=>
     ay (kC KQ PO) fun Rl=>
     ay (j5 5 Rl) fun Wt=>
     some (Wt,0)
    else
     some ((au.mk 0 []),9)
def zn (op1:Str) (a1:au) (b1:au):Option (au × Int):=
 if op1 == ([38,38]:Str) then
  ay (g_ 2 a1 b1) fun x1=>
  if x1 then
   ay (dF 2) fun x2=>
   some (x2,0)
  else
   some ((au.mk 0 []),9)
 else
  if op1 == ([124,124]:Str) then
   ay (g_ 2 a1 b1) fun x3=>
   if x3 then
    ay (dF 2) fun x4=>
    some (x4,0)
   else
    some ((au.mk 0 []),9)
  else
   if op1 == ([61,61]:Str) then
    ay (dF 2) fun x5=>
    some (x5,0)
   else
    if op1 == ([33,61]:Str) then
     ay (dF 2) fun x6=>
     some (x6,0)
    else
     if op1 == ([60]:Str) then
      ay (dN a1) fun x7=>
      ay (
        if x7 then
         dN b1
        else
         some false) fun b2=>
      ay (
        if b2 then
         some true
        else
         fO a1 b1 3) fun b3=>
      ay (
        if b3 then
         some true
        else
         fO a1 b1 4) fun b4=>
      if b4 then
       ay (dF 2) fun PO=>
       some (PO,0)
      else
       some ((au.mk 0 []),9)
     else
      if op1 == ([60,61]:Str) then
       ay (dN a1) fun Rl=>
       ay (
         if Rl then
          dN b1
         else
          some false) fun b5=>
       ay (
         if b5 then
          some true
         else
          fO a1 b1 3) fun b6=>
       ay (
         if b6 then
          some true
         else
          fO a1 b1 4) fun b7=>
       if b7 then
        ay (dF 2) fun PN=>
        some (PN,0)
       else
        some ((au.mk 0 []),9)
      else
       if op1 == ([62]:Str) then
        ay (dN a1) fun x17=>
        ay (
          if x17 then
           dN b1
          else
           some false) fun b8=>
        ay (
          if b8 then
           some true
          else
           fO a1 b1 3) fun b9=>
        ay (
          if b9 then
           some true
          else
           fO a1 b1 4) fun b10=>
        if b10 then
         ay (dF 2) fun x21=>
         some (x21,0)
        else
         some ((au.mk 0 []),9)
       else
        if op1 == ([62,61]:Str) then
         ay (dN a1) fun x22=>
         ay (
           if x22 then
            dN b1
           else
            some false) fun b11=>
         ay (
           if b11 then
            some true
           else
            fO a1 b1 3) fun b12=>
         ay (
           if b12 then
            some true
           else
            fO a1 b1 4) fun b13=>
         if b13 then
          ay (dF 2) fun x26=>
          some (x26,0)
         else
          some ((au.mk 0 []),9)
        else
         if op1 == ([45]:Str) then
          ay (g_ 3 a1 b1) fun x27=>
          if x27 then
           ay (dF 3) fun x28=>
           some (x28,0)
          else
           some ((au.mk 0 []),9)
         else
          if op1 == ([42]:Str) then
           ay (g_ 3 a1 b1) fun x29=>
           if x29 then
            ay (dF 3) fun x30=>
            some (x30,0)
           else
            some ((au.mk 0 []),9)
          else
           if op1 == ([47]:Str) then
            ay (g_ 3 a1 b1) fun x31=>
            if x31 then
             ay (dF 3) fun x32=>
             some (x32,0)
            else
             some ((au.mk 0 []),9)
           else
            if op1 == ([37]:Str) then
             ay (g_ 3 a1 b1) fun x33=>
             if x33 then
              ay (dF 3) fun x34=>
              some (x34,0)
             else
              some ((au.mk 0 []),9)
            else
             if op1 == ([43]:Str) then
              CS a1 b1
             else
              some ((au.mk 0 []),9)
def nT (dB:Int) (eH:List au):Nat→Int→au→Option (au × Int)
 | 0,_,_=>none
 | dQ + 1,x2,kE=>
  if decide (x2 < (eH.length:Int)) then
   ay (idx eH x2) fun e1=>
   ay (kC kE e1) fun x3=>
   nT dB eH dQ (bL (x2 + 1)) x3
  else
   ay (j5 dB kE) fun x4=>
   ay (iT x4) fun x5=>
   if x5 != 0 then
    some ((au.mk 0 []),13)
   else
    some (x4,0)
def pz (dB:Int) (eH:List au):Option (au × Int):=
 ay (dF 7) fun x1=>
 nT dB eH BIG 0 x1
def zm (eD:ah→List aO→Option (au × Int)) (gQ:ah→List aO→Option (au × Int)) (gW:List ah→List aO→Option (List au × Int)) (e1:ah) (bM:List aO):Option (au × Int):=
 if e1.kind == 5 then
  gQ e1 bM
 else
  dX (gW e1.args bM) fun eH f1=>
  if f1 != 0 then
   some ((au.mk 0 []),f1)
  else
   if e1.kind == 1 then
    ay (B_ e1.value) fun x3=>
    some (x3,0)
   else
    if e1.kind == 2 then
     rO bM e1.name
    else
     if e1.kind == 3 then
      ay (idx eH 0) fun e2=>
      wh e2
     else
      if e1.kind == 4 then
       ay (idx eH 0) fun e3=>
       ay (idx eH 1) fun e4=>
       xY e3 e4
      else
       if e1.kind == 6 then
        ay (idx eH 0) fun e5=>
        xX e1.name e5
       else
        if e1.kind == 7 then
         ay (idx eH 0) fun e6=>
         ay (idx eH 1) fun e7=>
         zn e1.name e6 e7
        else
         if e1.kind == 8 then
          ay (idx eH 0) fun e8=>
          ay (dF 2) fun x14=>
          ay (gL e8 x14) fun Ws=>
          if !Ws then
           some ((au.mk 0 []),9)
          else
           ay (idx eH 1) fun e9=>
           ay (idx eH 2) fun e10=>
           ay (kC e9 e10) fun PN=>
           some (PN,0)
         else
          if e1.kind == 9 then
           pz 5 eH
          else
           pz 6 eH
def kW (e1:ah) (ig:List (List au)) (x1:au) (eH:List au):Nat→Int→Option (au × Int)
 | 0,_=>none
 | dQ + 1,x2=>
  if decide (x2 < (ig.length:Int)) then
   ay (idx ig x2) fun yJ=>
   ay (nS eH yJ) fun x3=>
   if !x3 then
    kW e1 ig x1 eH dQ (bL (x2 + 1))
   else
    if !(e1.name == ([100,101,102,97,117,108,116]:Str)) then
     some (x1,0)
    else
     ay (idx eH 0) fun e3=>
     if e3.kind == 1 then
      ay (idx eH 1) fun e4=>
      some (e4,0)
     else
      ay (idx eH 0) fun e5=>
      some (e5,0)
  else
   some ((au.mk 0 []),9)
def wm (eD:ah→List aO→Option (au × Int)) (gQ:ah→List aO→Option (au × Int)) (gW:List ah→List aO→Option (List au × Int)) (e1:ah) (bM:List aO):Option (au × Int):=
 dX (h_ e1.name) fun ig x1=>
 if (ig.length:Int) == 0 then
  some ((au.mk 0 []),10)
 else
  ay (idx ig 0) fun e2=>
  if (e1.args.length:Int) != (e2.length:Int) then
   some ((au.mk 0 []),1)
  else
   dX (gW e1.args bM) fun eH f1=>
   if f1 != 0 then
    some ((au.mk 0 []),f1)
   else
    kW e1 ig x1 eH BIG 0
def lY (eD:ah→List aO→Option (au × Int)) (l1:List ah) (bM:List aO):Nat→List au→Int→Option (List au × Int)
 | 0,_,_=>none
 | dQ + 1,dx,x1=>
  if decide (x1 < (l1.length:Int)) then
   ay (idx l1 x1) fun e1=>
   dX (eD e1 bM) fun x2 f1=>
   if f1 != 0 then
    some ([],f1)
   else
    ay (app dx [x2]) fun wE=>
    lY eD l1 bM dQ wE (bL (x1 + 1))
  else
   some (dx,0)
def E5 (eD:ah→List aO→Option (au × Int)) (gQ:ah→List aO→Option (au × Int)) (gW:List ah→List aO→Option (List au × Int)) (l1:List ah) (bM:List aO):Option (List au × Int):=
 lY eD l1 bM BIG [] 0
mutual
def eT :Nat→ah→List aO→Option (au × Int)
 | 0,_,_=>none
 | k + 1,iF,gM=>zm (eT k) (j6 k) (jl k) iF gM
def j6 :Nat→ah→List aO→Option (au × Int)
 | 0,_,_=>none
 | k + 1,iF,gM=>wm (eT k) (j6 k) (jl k) iF gM
def jl :Nat→List ah→List aO→Option (List au × Int)
 | 0,_,_=>none
 | k + 1,X_,gM=>E5 (eT k) (j6 k) (jl k) X_ gM
end
def GR (iF:ah) (gM:List aO):Option (au × Int):=eT BIG iF gM
def UH (iF:ah) (gM:List aO):Option (au × Int):=j6 BIG iF gM
def XI (X_:List ah) (gM:List aO):Option (List au × Int):=jl BIG X_ gM
def wU (e1:ah) (bM:List aO):Option (au × Int):=
 ay (zM bM) fun f1=>
 if f1 != 0 then
  some ((au.mk 0 []),f1)
 else
  ay (jB e1) fun f2=>
  if f2 != 0 then
   some ((au.mk 0 []),f2)
  else
   dX (GR e1 bM) fun x1 f3=>
   if f3 != 0 then
    some ((au.mk 0 []),f3)
   else
    ay (dF 7) fun x2=>
    ay (kC x1 x2) fun x3=>
    some (x3,0)
def jX (bM:List aO) (s1:Option Int) (x1:ah):Option (Bool × Option Int):=
 match s1 with
 | some _=>none
 | none=>
  dX (wU x1 bM) fun t1 o8=>
  if o8 != 0 then
   some (false,some o8)
  else
   if (t1.kind == 5) || (t1.kind == 6) then
    some (false,some 9)
   else
    some (true,none)
def pV (s1:Str) (bM:List aO):Option Int:=
 j_ (lU s1) fun ps1 _ o8=>
 if o8 != 0 then
  some o8
 else
  ay (zM bM) fun CR=>
  if CR != 0 then
   some CR
  else
   ay (jJ (jX bM) none ps1) fun s2=>
   some (s2.getD 0)
def Cz :Option Bool:=
 ay (app ([97]:Str) ([36]:List UInt8)) fun x1=>
 ay (app x1 ([36]:List UInt8)) fun x2=>
 ay (app x2 ([98]:Str)) fun x3=>
 ay Iw fun x4=>
 ay (app x3 x4) fun x5=>
 ay (app x5 ([120,32,43,32,49,125,99]:Str)) fun s1=>
 j_ (lU s1) fun l1 x6 e1=>
 dX (BO s1 [(bT.mk ([120]:Str) (av.mk 2 false 2 ([]:Str) [] []))]) fun t1 f1=>
 dX (su s1) fun n1 g1=>
 ay Iw fun x7=>
 ay (app ([97]:Str) x7) fun x8=>
 ay (app x8 ([49,32,43,125]:Str)) fun x9=>
 j_ (lU x9) fun KQ bK hx1=>
 ay (
   if (e1 != 0) || ((l1.length:Int) != 3) then
    some true
   else
    ay (idx l1 0) fun e2=>
    ay (app ([97]:Str) ([36]:List UInt8)) fun PO=>
    ay (app PO ([98]:Str)) fun Rl=>
    some (!(e2.text == Rl))) fun b1=>
 ay (
   if b1 then
    some true
   else
    ay (idx l1 1) fun e3=>
    some (!e3.EM)) fun b2=>
 ay (
   if b2 then
    some true
   else
    ay (idx l1 2) fun e4=>
    some (!(e4.text == ([99]:Str)))) fun b3=>
 ay (
   if b3 || (f1 != 0) then
    some true
   else
    ay (app ([97]:Str) ([36]:List UInt8)) fun Wt=>
    ay (app Wt ([98,51,99]:Str)) fun x14=>
    some (!(t1 == x14))) fun b4=>
 if b4 then
  some false
 else
  ay (
    if (g1 == 0) && ((n1.length:Int) == 1) then
     ay (idx n1 0) fun e5=>
     some (e5 == ([120]:Str))
    else
     some false) fun b5=>
  ay (
    if (b5 && (bK == 6)) && (hx1 == 4) then
     ay (EN l1) fun Ws=>
     some (Ws == s1)
    else
     some false) fun b6=>
  ay (
    if b6 then
     ay (pV s1 [(aO.mk ([120]:Str) (au.mk 3 []))]) fun PN=>
     some (PN == 0)
    else
     some false) fun b7=>
  if b7 then
   ay (pV s1 []) fun x17=>
   some (x17 == 10)
  else
   some false
def uq (l:List aK):Bool:=
 match l.getLast? with
 | some p=>p.EM
 | none=>true
def uZ (l:List aK):Str:=
 match l.getLast? with
 | some p=>p.text
 | none=>[]
def A_ (l:List aK) (t:Str):List aK:=
 match l.getLast? with
 | some p=>l.dropLast ++ [aK.mk t p.EM p.expr]
 | none=>l
def z_ (l1:List aK) (c1:UInt8):Option (List aK):=
 if l1.length≤uU then
  if ((l1.length:Int) == 0) || uq l1 then
   app l1 [(aK.mk [c1] false (ah.mk 0 ([]:Str) (av.mk 0 false 0 ([]:Str) [] []) [] []))]
  else
   ay (app (uZ l1) [c1]) fun t1=>
   some (A_ l1 t1)
 else
  none
def nZ (s1:Str):Nat→Int→Option Int
 | 0,_=>none
 | dQ + 1,at2=>
  ay (
    if decide (at2 < (s1.length:Int)) then
     ay (idx s1 at2) fun x1=>
     some ((x1.toNat:Int) != 34)
    else
     some false) fun b1=>
  if b1 then
   ay (idx s1 at2) fun x2=>
   if (x2.toNat:Int) == 92 then
    nZ s1 dQ (bL ((bL (at2 + 1)) + 1))
   else
    nZ s1 dQ (bL (at2 + 1))
  else
   some (bL (at2 + 1))
def Dg (s1:Str) (bK:Int):Option Int:=
 nZ s1 BIG (bL (bK + 1))
def iI (s1:Str):Nat→Int→Int→Option Int
 | 0,_,_=>none
 | dQ + 1,at2,gy=>
  if decide (at2 < (s1.length:Int)) then
   ay (idx s1 at2) fun x1=>
   if (x1.toNat:Int) == 34 then
    ay (Dg s1 at2) fun at3=>
    iI s1 dQ at3 gy
   else
    if (x1.toNat:Int) == 123 then
     iI s1 dQ (bL (at2 + 1)) (bL (gy + 1))
    else
     if (x1.toNat:Int) == 125 then
      if gy == 0 then
       some at2
      else
       iI s1 dQ (bL (at2 + 1)) (bL (gy - 1))
     else
      iI s1 dQ (bL (at2 + 1)) gy
  else
   some (-1)
def Ba (s1:Str) (bK:Int):Option Int:=
 iI s1 BIG bK 0
def mH (aZ:Str):Nat→Int→Bool→Option Int
 | 0,_,_=>none
 | dQ + 1,at2,SV=>
  ay (
    if decide (at2 < (aZ.length:Int)) then
     ay (idx aZ at2) fun x1=>
     some ((x1.toNat:Int) != 10)
    else
     some false) fun b1=>
  ay (
    if b1 then
     ay (
       if SV then
        some true
       else
        ay (idx aZ at2) fun x2=>
        some ((x2.toNat:Int) == 32)) fun b3=>
     ay (
       if b3 then
        some true
       else
        ay (idx aZ at2) fun x3=>
        some ((x3.toNat:Int) == 9)) fun b4=>
     if b4 then
      some true
     else
      ay (idx aZ at2) fun x4=>
      some ((x4.toNat:Int) == 35)
    else
     some false) fun b2=>
  if b2 then
   ay (
     if SV then
      some true
     else
      ay (idx aZ at2) fun x5=>
      some ((x5.toNat:Int) == 35)) fun b6=>
   mH aZ dQ (bL (at2 + 1)) b6
  else
   some at2
def nJ (aZ:Str) (bK:Int):Option Int:=
 mH aZ BIG bK false
def nk (c1:UInt8):Option Bool:=
 some ((decide (48≤(c1.toNat:Int))) && (decide ((c1.toNat:Int)≤57)))
def qp (aZ:Str) (bK:Int):Nat→Int→Option Int
 | 0,_=>none
 | dQ + 1,n1=>
  ay (
    if decide ((bL (bK + n1)) < (aZ.length:Int)) then
     ay (idx aZ (bL (bK + n1))) fun x1=>
     nk x1
    else
     some false) fun b1=>
  if b1 then
   qp aZ bK dQ (bL (n1 + 1))
  else
   some n1
def Af (aZ:Str) (bK:Int):Option Int:=
 qp aZ bK BIG 0
def wM (c1:UInt8):Option Bool:=
 some ((((decide (97≤(c1.toNat:Int))) && (decide ((c1.toNat:Int)≤122))) || ((decide (65≤(c1.toNat:Int))) && (decide ((c1.toNat:Int)≤90)))) || ((c1.toNat:Int) == 95))
def uM (aZ:Str) (bK:Int):Nat→Int→Option Int
 | 0,_=>none
 | dQ + 1,n1=>
  ay (
    if decide ((bL (bK + n1)) < (aZ.length:Int)) then
     ay (idx aZ (bL (bK + n1))) fun x1=>
     ay (wM x1) fun x2=>
     if x2 then
      some true
     else
      ay (idx aZ (bL (bK + n1))) fun x3=>
      nk x3
    else
     some false) fun b1=>
  if b1 then
   uM aZ bK dQ (bL (n1 + 1))
  else
   some n1
def Co (aZ:Str) (bK:Int):Option Int:=
 uM aZ bK BIG 0
def qY (s1:Str):Nat→Int→Int→Option (Int × Bool)
 | 0,_,_=>none
 | dQ + 1,n1,i1=>
  if decide (i1 < (s1.length:Int)) then
   ay (idx s1 i1) fun x2=>
   ay (nk x2) fun x3=>
   if !x3 then
    some (0,false)
   else
    ay (idx s1 i1) fun x4=>
    qY s1 dQ (bL ((bL ((bL (10 * n1)) + (x4.toNat:Int))) - 48)) (bL (i1 + 1))
  else
   some (n1,(decide (n1≤9007199254740992)))
def wY (s1:Str):Option (Int × Bool):=
 ay (
   if (s1 == ([]:Str)) || (decide (16 < (s1.length:Int))) then
    some true
   else
    if decide (1 < (s1.length:Int)) then
     ay (idx s1 0) fun x1=>
     some ((x1.toNat:Int) == 48)
    else
     some false) fun b1=>
 if b1 then
  some (0,false)
 else
  qY s1 BIG 0 0
def Ae (aZ:Str) (bK:Int):Option (aA × Int × Int):=
 ay (Af aZ bK) fun n1=>
 ay (Co aZ bK) fun x1=>
 ay (
   if decide (n1 < x1) then
    some true
   else
    if decide (1 < n1) then
     ay (idx aZ bK) fun x2=>
     some ((x2.toNat:Int) == 48)
    else
     some false) fun b1=>
 if b1 then
  some ((aA.mk 0 ([]:Str) 0),0,5)
 else
  ay (sl aZ bK (bL (bK + n1))) fun x3=>
  dX (wY x3) fun x4 ok1=>
  if !ok1 then
   some ((aA.mk 0 ([]:Str) 0),0,2)
  else
   ay (sl aZ bK (bL (bK + n1))) fun x5=>
   some ((aA.mk 2 x5 0),n1,0)
def Fv (c1:UInt8):Option Int:=
 ay (nk c1) fun x1=>
 if x1 then
  some (bL ((c1.toNat:Int) - 48))
 else
  if (decide (97≤(c1.toNat:Int))) && (decide ((c1.toNat:Int)≤102)) then
   some (bL ((c1.toNat:Int) - 87))
  else
   if (decide (65≤(c1.toNat:Int))) && (decide ((c1.toNat:Int)≤70)) then
    some (bL ((c1.toNat:Int) - 55))
   else
    some (-1)
def jU (aZ:Str) (bK:Int):Nat→Int→Int→Option (UInt8 × Int × Int)
 | 0,_,_=>none
 | dQ + 1,n1,i1=>
  if decide (i1 < (bL (bK + 4))) then
   if decide ((aZ.length:Int)≤i1) then
    some (0,0,4)
   else
    ay (idx aZ i1) fun x1=>
    ay (Fv x1) fun x2=>
    if decide (x2 < 0) then
     some (0,0,5)
    else
     ay (idx aZ i1) fun x3=>
     ay (Fv x3) fun x4=>
     jU aZ bK dQ (bL ((bL (16 * n1)) + x4)) (bL (i1 + 1))
  else
   some ((Ft.byteOf n1),4,0)
def xG (aZ:Str) (bK:Int):Option (UInt8 × Int × Int):=
 jU aZ bK BIG 0 (bL (bK + 2))
def l9 (aZ:Str) (bK:Int):Option (UInt8 × Int × Int):=
 ay (idx aZ bK) fun x1=>
 if decide ((x1.toNat:Int) < 32) then
  some (0,0,5)
 else
  ay (idx aZ bK) fun x2=>
  if (x2.toNat:Int) != 92 then
   ay (idx aZ bK) fun x3=>
   some (x3,1,0)
  else
   if decide ((aZ.length:Int)≤(bL (bK + 1))) then
    some (0,0,4)
   else
    ay (idx aZ (bL (bK + 1))) fun x4=>
    if (x4.toNat:Int) == 34 then
     ay (idx aZ (bL (bK + 1))) fun x5=>
     some (x5,2,0)
    else
     if (x4.toNat:Int) == 92 then
      ay (idx aZ (bL (bK + 1))) fun x6=>
      some (x6,2,0)
     else
      if (x4.toNat:Int) == 110 then
       some (10,2,0)
      else
       if (x4.toNat:Int) == 116 then
        some (9,2,0)
       else
        if (x4.toNat:Int) == 120 then
         xG aZ bK
        else
         some (0,0,5)
def uN (aZ:Str) (bK:Int):Nat→List UInt8→Int→Option (aA × Int × Int)
 | 0,_,_=>none
 | dQ + 1,b1,i1=>
  if decide (i1 < (aZ.length:Int)) then
   ay (idx aZ i1) fun x1=>
   if (x1.toNat:Int) == 34 then
    if decide (4096 < (b1.length:Int)) then
     some ((aA.mk 0 ([]:Str) 0),0,3)
    else
     some ((aA.mk 3 b1 0),(bL ((bL (i1 + 1)) - bK)),0)
   else
    j_ (l9 aZ i1) fun c1 n1 e1=>
    if e1 != 0 then
     some ((aA.mk 0 ([]:Str) 0),0,e1)
    else
     ay (app b1 ([c1]:List UInt8)) fun b2=>
     uN aZ bK dQ b2 (bL (i1 + n1))
  else
   some ((aA.mk 0 ([]:Str) 0),0,4)
def Ey (aZ:Str) (bK:Int):Option (aA × Int × Int):=
 uN aZ bK BIG [] (bL (bK + 1))
def fq (aZ:Str) (bK:Int):Nat→Int→Option Int
 | 0,_=>none
 | Ul + 1,i2=>
  if decide (i2 < 19) then
   ay (idx aZ bK) fun x3=>
   ay (idx ([60,62,43,45,42,47,37,33,63,58,46,44,61,40,41,91,93,123,125]:Str) i2) fun x4=>
   if (x3.toNat:Int) == (x4.toNat:Int) then
    some 1
   else
    fq aZ bK Ul (bL (i2 + 1))
  else
   some 0
def eF (aZ:Str) (bK:Int):Nat→Int→Option Int
 | 0,_=>none
 | dQ + 1,i1=>
  if decide (i1 < 12) then
   ay (
     if decide ((bL (bK + 2))≤(aZ.length:Int)) then
      ay (sl aZ bK (bL (bK + 2))) fun x1=>
      ay (sl ([124,124,38,38,61,61,33,61,60,61,62,61]:Str) i1 (bL (i1 + 2))) fun x2=>
      some (x1 == x2)
     else
      some false) fun b1=>
   if b1 then
    some 2
   else
    eF aZ bK dQ (bL (i1 + 2))
  else
   fq aZ bK BIG 0
def vv (aZ:Str) (bK:Int):Option Int:=
 eF aZ bK BIG 0
def Cq (aZ:Str) (bK:Int):Option (aA × Int × Int):=
 ay (idx aZ bK) fun x1=>
 ay (nk x1) fun x2=>
 if x2 then
  Ae aZ bK
 else
  ay (idx aZ bK) fun x6=>
  if (x6.toNat:Int) == 34 then
   Ey aZ bK
  else
   ay (Co aZ bK) fun n1=>
   if decide (0 < n1) then
    if decide (64 < n1) then
     some ((aA.mk 0 ([]:Str) 0),0,3)
    else
     ay (sl aZ bK (bL (bK + n1))) fun KQ=>
     some ((aA.mk 1 KQ 0),n1,0)
   else
    ay (vv aZ bK) fun n2=>
    if n2 == 0 then
     some ((aA.mk 0 ([]:Str) 0),0,5)
    else
     ay (sl aZ bK (bL (bK + n2))) fun PO=>
     some ((aA.mk 4 PO 0),n2,0)
def pO (gy:Int) (t1:aA):Option Int:=
 if (t1.kind == 4) && ((t1.text == ([40]:Str)) || (t1.text == ([91]:Str))) then
  some (bL (gy + 1))
 else
  if ((t1.kind == 4) && ((t1.text == ([41]:Str)) || (t1.text == ([93]:Str)))) && (decide (0 < gy)) then
   some (bL (gy - 1))
  else
   some gy
def jS (aZ:Str):Nat→List aA→Int→Int→Option (List aA × Int × Int)
 | 0,_,_,_=>none
 | dQ + 1,dx,gy,at2=>
  if decide (at2 < (aZ.length:Int)) then
   ay (idx aZ at2) fun x1=>
   if (x1.toNat:Int) != 10 then
    j_ (Cq aZ at2) fun x2 yw e1=>
    if e1 != 0 then
     some ([],at2,e1)
    else
     ay (
       if x2.kind != 5 then
        some true
       else
        if gy == 0 then
         if (dx.length:Int) == 0 then
          some true
         else
          ay (idx dx (bL ((dx.length:Int) - 1))) fun e2=>
          some (e2.kind != 5)
        else
         some false) fun b1=>
     if b1 then
      ay (app dx [(aA.mk x2.kind x2.text at2)]) fun wE=>
      ay (pO gy (aA.mk x2.kind x2.text at2)) fun R6=>
      ay (nJ aZ (bL (at2 + yw))) fun at3=>
      jS aZ dQ wE R6 at3
     else
      ay (pO gy (aA.mk x2.kind x2.text at2)) fun agZ=>
      ay (nJ aZ (bL (at2 + yw))) fun at4=>
      jS aZ dQ dx agZ at4
   else
    ay (
      if (5:Int) != 5 then
       some true
      else
       if gy == 0 then
        if (dx.length:Int) == 0 then
         some true
        else
         ay (idx dx (bL ((dx.length:Int) - 1))) fun e3=>
         some (e3.kind != 5)
       else
        some false) fun b4=>
    if b4 then
     ay (app dx [(aA.mk 5 ([]:Str) at2)]) fun W9=>
     ay (pO gy (aA.mk 5 ([]:Str) at2)) fun agY=>
     ay (nJ aZ (bL (at2 + 1))) fun at5=>
     jS aZ dQ W9 agY at5
    else
     ay (pO gy (aA.mk 5 ([]:Str) at2)) fun agX=>
     ay (nJ aZ (bL (at2 + 1))) fun at6=>
     jS aZ dQ dx agX at6
  else
   some (dx,0,0)
def qX (aZ:Str):Option (List aA × Int × Int):=
 if decide (65536 < (aZ.length:Int)) then
  some ([],0,3)
 else
  ay (nJ aZ 0) fun bK=>
  jS aZ BIG [] 0 bK
def oL (eH:List aA) (bK:Int) (s1:Str):Option Bool:=
 ay (
   if decide (bK < (eH.length:Int)) then
    ay (idx eH bK) fun e1=>
    some (e1.kind == 4)
   else
    some false) fun b1=>
 if b1 then
  ay (idx eH bK) fun e2=>
  some (e2.text == s1)
 else
  some false
def qU (v1:av):Option ah:=
 some (ah.mk 1 ([]:Str) v1 [] [])
def xH (s1:Str):Nat→Int→Option Bool
 | 0,_=>none
 | dQ + 1,i1=>
  if decide (i1 < (s1.length:Int)) then
   ay (idx s1 i1) fun x1=>
   ay (wM x1) fun x2=>
   ay (
     if !x2 then
      if i1 == 0 then
       some true
      else
       ay (idx s1 i1) fun x3=>
       ay (nk x3) fun x4=>
       some (!x4)
     else
      some false) fun b1=>
   if b1 then
    some false
   else
    xH s1 dQ (bL (i1 + 1))
  else
   some ((decide (1≤(s1.length:Int))) && (decide ((s1.length:Int)≤64)))
def Cr (s1:Str):Option Bool:=
 xH s1 BIG 0
def oM (s1:Str):Option Bool:=
 ay (Cr s1) fun x1=>
 some (((x1 && (!(s1 == ([116,114,117,101]:Str)))) && (!(s1 == ([102,97,108,115,101]:Str)))) && (!(s1 == ([110,117,108,108]:Str))))
def H_ (t1:aA):Option Bool:=
 ay (
   if t1.kind == 1 then
    Cr t1.text
   else
    some false) fun b1=>
 some (b1 || ((t1.kind == 3) && (decide ((t1.text.length:Int)≤4096))))
def kD (eH:List aA) (bK:Int):Option Int:=
 if decide ((eH.length:Int)≤bK) then
  some 4
 else
  some 5
def rV (op1:Str):Option Int:=
 if op1 == ([124,124]:Str) then
  some 2
 else
  if op1 == ([38,38]:Str) then
   some 3
  else
   if op1 == ([61,61]:Str) then
    some 4
   else
    if op1 == ([33,61]:Str) then
     some 4
    else
     if op1 == ([60]:Str) then
      some 4
     else
      if op1 == ([60,61]:Str) then
       some 4
      else
       if op1 == ([62]:Str) then
        some 4
       else
        if op1 == ([62,61]:Str) then
         some 4
        else
         if op1 == ([43]:Str) then
          some 5
         else
          if op1 == ([45]:Str) then
           some 5
          else
           if op1 == ([42]:Str) then
            some 6
           else
            if op1 == ([47]:Str) then
             some 6
            else
             if op1 == ([37]:Str) then
              some 6
             else
              some 0
def tY (bg:List aA→Int→Option (ah × Int × Int)) (bO:List aA→Int→Int→Option (ah × Int × Int)) (eP:List aA→Int→Option (ah × Int × Int)) (fD:List aA→Int→Option (ah × Int × Int)) (gD:List aA→Int→Option (ah × Int × Int)) (gB:List aA→Int→Option (ah × Int × Int)) (fF:List aA→Int→Str→Bool→Option (List ah × List Str × Int × Int)) (dM:List aA→Int→Option (ah × Int × Int)) (eH:List aA) (bK:Int):Option (ah × Int × Int):=
 j_ (bO eH bK 2) fun x1 at2 e1=>
 ay (
   if e1 != 0 then
    some true
   else
    ay (oL eH at2 ([63]:Str)) fun x2=>
    some (!x2)) fun b1=>
 if b1 then
  some (x1,at2,e1)
 else
  j_ (bg eH (bL (at2 + 1))) fun x3 at3 e2=>
  if e2 != 0 then
   some ((ah.mk 0 ([]:Str) (av.mk 0 false 0 ([]:Str) [] []) [] []),at3,e2)
  else
   ay (oL eH at3 ([58]:Str)) fun x4=>
   if !x4 then
    ay (kD eH at3) fun x5=>
    some ((ah.mk 0 ([]:Str) (av.mk 0 false 0 ([]:Str) [] []) [] []),at3,x5)
   else
    j_ (bg eH (bL (at3 + 1))) fun x6 at4 e3=>
    some ((ah.mk 8 ([]:Str) (av.mk 0 false 0 ([]:Str) [] []) [x1,x3,x6] []),at4,e3)
def iU (bO:List aA→Int→Int→Option (ah × Int × Int)) (eH:List aA) (lu:Int):Nat→Int→Int→Int→ah→Option (ah × Int × Int)
 | 0,_,_,_,_=>none
 | dQ + 1,at3,e2,n1,adr=>
  ay (
    if (e2 == 0) && (decide (at3 < (eH.length:Int))) then
     ay (idx eH at3) fun e3=>
     some (e3.kind == 4)
    else
     some false) fun b1=>
  ay (
    if b1 then
     ay (idx eH at3) fun e4=>
     ay (rV e4.text) fun x5=>
     some (x5 == lu)
    else
     some false) fun b2=>
  if b2 && ((n1 == 0) || (lu != 4)) then
   j_ (bO eH (bL (at3 + 1)) (bL (lu + 1))) fun x6 iR f1=>
   ay (idx eH at3) fun e5=>
   iU bO eH lu dQ iR f1 (bL (n1 + 1)) (ah.mk 7 e5.text (av.mk 0 false 0 ([]:Str) [] []) [adr,x6] [])
  else
   some (adr,at3,e2)
def p9 (bg:List aA→Int→Option (ah × Int × Int)) (bO:List aA→Int→Int→Option (ah × Int × Int)) (eP:List aA→Int→Option (ah × Int × Int)) (fD:List aA→Int→Option (ah × Int × Int)) (gD:List aA→Int→Option (ah × Int × Int)) (gB:List aA→Int→Option (ah × Int × Int)) (fF:List aA→Int→Str→Bool→Option (List ah × List Str × Int × Int)) (dM:List aA→Int→Option (ah × Int × Int)) (eH:List aA) (bK:Int) (lu:Int):Option (ah × Int × Int):=
 if lu == 7 then
  eP eH bK
 else
  j_ (bO eH bK (bL (lu + 1))) fun x4 at2 e1=>
  iU bO eH lu BIG at2 e1 0 x4
def Bc (bg:List aA→Int→Option (ah × Int × Int)) (bO:List aA→Int→Int→Option (ah × Int × Int)) (eP:List aA→Int→Option (ah × Int × Int)) (fD:List aA→Int→Option (ah × Int × Int)) (gD:List aA→Int→Option (ah × Int × Int)) (gB:List aA→Int→Option (ah × Int × Int)) (fF:List aA→Int→Str→Bool→Option (List ah × List Str × Int × Int)) (dM:List aA→Int→Option (ah × Int × Int)) (eH:List aA) (bK:Int):Option (ah × Int × Int):=
 ay (oL eH bK ([33]:Str)) fun x1=>
 ay (
   if !x1 then
    ay (oL eH bK ([45]:Str)) fun x2=>
    some (!x2)
   else
    some false) fun b1=>
 if b1 then
  fD eH bK
 else
  j_ (eP eH (bL (bK + 1))) fun x6 iR e1=>
  ay (idx eH bK) fun e2=>
  some ((ah.mk 6 e2.text (av.mk 0 false 0 ([]:Str) [] []) [x6] []),iR,e1)
def lN (bg:List aA→Int→Option (ah × Int × Int)) (eH:List aA) (e1:Int):Nat→Int→ah→Option (ah × Int × Int)
 | 0,_,_=>none
 | dQ + 1,at3,x2=>
  ay (
    if e1 == 0 then
     ay (oL eH at3 ([46]:Str)) fun x3=>
     if x3 then
      some true
     else
      oL eH at3 ([91]:Str)
    else
     some false) fun b1=>
  if b1 then
   ay (oL eH at3 ([46]:Str)) fun x5=>
   if x5 then
    ay (
      if decide ((eH.length:Int)≤(bL (at3 + 1))) then
       some true
      else
       ay (idx eH (bL (at3 + 1))) fun e2=>
       some (e2.kind != 1)) fun b3=>
    ay (
      if b3 then
       some true
      else
       ay (idx eH (bL (at3 + 1))) fun e3=>
       ay (oM e3.text) fun x6=>
       some (!x6)) fun b4=>
    if b4 then
     ay (kD eH (bL (at3 + 1))) fun x7=>
     some ((ah.mk 0 ([]:Str) (av.mk 0 false 0 ([]:Str) [] []) [] []),(bL (at3 + 1)),x7)
    else
     ay (idx eH (bL (at3 + 1))) fun e4=>
     lN bg eH e1 dQ (bL ((bL (at3 + 1)) + 1)) (ah.mk 3 e4.text (av.mk 0 false 0 ([]:Str) [] []) [x2] [])
   else
    j_ (bg eH (bL (at3 + 1))) fun x8 iR f1=>
    if f1 != 0 then
     some ((ah.mk 0 ([]:Str) (av.mk 0 false 0 ([]:Str) [] []) [] []),iR,f1)
    else
     ay (oL eH iR ([93]:Str)) fun x9=>
     if !x9 then
      ay (kD eH iR) fun KQ=>
      some ((ah.mk 0 ([]:Str) (av.mk 0 false 0 ([]:Str) [] []) [] []),iR,KQ)
     else
      lN bg eH e1 dQ (bL (iR + 1)) (ah.mk 4 ([]:Str) (av.mk 0 false 0 ([]:Str) [] []) [x2,x8] [])
  else
   some (x2,at3,e1)
def Bg (bg:List aA→Int→Option (ah × Int × Int)) (bO:List aA→Int→Int→Option (ah × Int × Int)) (eP:List aA→Int→Option (ah × Int × Int)) (fD:List aA→Int→Option (ah × Int × Int)) (gD:List aA→Int→Option (ah × Int × Int)) (gB:List aA→Int→Option (ah × Int × Int)) (fF:List aA→Int→Str→Bool→Option (List ah × List Str × Int × Int)) (dM:List aA→Int→Option (ah × Int × Int)) (eH:List aA) (bK:Int):Option (ah × Int × Int):=
 j_ (gD eH bK) fun x1 at2 e1=>
 lN bg eH e1 BIG at2 x1
def Di (bg:List aA→Int→Option (ah × Int × Int)) (bO:List aA→Int→Int→Option (ah × Int × Int)) (eP:List aA→Int→Option (ah × Int × Int)) (fD:List aA→Int→Option (ah × Int × Int)) (gD:List aA→Int→Option (ah × Int × Int)) (gB:List aA→Int→Option (ah × Int × Int)) (fF:List aA→Int→Str→Bool→Option (List ah × List Str × Int × Int)) (dM:List aA→Int→Option (ah × Int × Int)) (eH:List aA) (bK:Int):Option (ah × Int × Int):=
 if decide ((eH.length:Int)≤bK) then
  some ((ah.mk 0 ([]:Str) (av.mk 0 false 0 ([]:Str) [] []) [] []),bK,4)
 else
  ay (idx eH bK) fun e1=>
  if e1.kind == 2 then
   dX (wY e1.text) fun n1 ok1=>
   if ok1 then
    ay (qU (av.mk 2 false n1 ([]:Str) [] [])) fun x1=>
    some (x1,(bL (bK + 1)),0)
   else
    some ((ah.mk 0 ([]:Str) (av.mk 0 false 0 ([]:Str) [] []) [] []),bK,5)
  else
   if e1.kind == 3 then
    if decide ((e1.text.length:Int)≤4096) then
     ay (qU (av.mk 3 false 0 e1.text [] [])) fun x2=>
     some (x2,(bL (bK + 1)),0)
    else
     some ((ah.mk 0 ([]:Str) (av.mk 0 false 0 ([]:Str) [] []) [] []),bK,5)
   else
    if e1.kind == 1 then
     gB eH bK
    else
     if e1.kind == 4 then
      dM eH bK
     else
      some ((ah.mk 0 ([]:Str) (av.mk 0 false 0 ([]:Str) [] []) [] []),bK,5)
def Ab (bg:List aA→Int→Option (ah × Int × Int)) (bO:List aA→Int→Int→Option (ah × Int × Int)) (eP:List aA→Int→Option (ah × Int × Int)) (fD:List aA→Int→Option (ah × Int × Int)) (gD:List aA→Int→Option (ah × Int × Int)) (gB:List aA→Int→Option (ah × Int × Int)) (fF:List aA→Int→Str→Bool→Option (List ah × List Str × Int × Int)) (dM:List aA→Int→Option (ah × Int × Int)) (eH:List aA) (bK:Int):Option (ah × Int × Int):=
 ay (idx eH bK) fun e1=>
 if e1.text == ([110,117,108,108]:Str) then
  ay (qU (av.mk 0 false 0 ([]:Str) [] [])) fun x1=>
  some (x1,(bL (bK + 1)),0)
 else
  if e1.text == ([116,114,117,101]:Str) then
   ay (qU (av.mk 1 (e1.text == ([116,114,117,101]:Str)) 0 ([]:Str) [] [])) fun x2=>
   some (x2,(bL (bK + 1)),0)
  else
   if e1.text == ([102,97,108,115,101]:Str) then
    ay (qU (av.mk 1 (e1.text == ([116,114,117,101]:Str)) 0 ([]:Str) [] [])) fun x3=>
    some (x3,(bL (bK + 1)),0)
   else
    ay (oM e1.text) fun x4=>
    if !x4 then
     some ((ah.mk 0 ([]:Str) (av.mk 0 false 0 ([]:Str) [] []) [] []),bK,5)
    else
     ay (oL eH (bL (bK + 1)) ([40]:Str)) fun x5=>
     if !x5 then
      some ((ah.mk 2 e1.text (av.mk 0 false 0 ([]:Str) [] []) [] []),(bL (bK + 1)),0)
     else
      Gg (fF eH (bL (bK + 2)) ([41]:Str) false) fun l1 x6 iR e2=>
      some ((ah.mk 5 e1.text (av.mk 0 false 0 ([]:Str) [] []) l1 []),iR,e2)
def nI (bg:List aA→Int→Option (ah × Int × Int)) (eH:List aA) (o_:Str) (rJ:Bool):Nat→Int→List ah→List Str→Option (List ah × List Str × Int × Int)
 | 0,_,_,_=>none
 | dQ + 1,at2,l1,qD=>
  if rJ then
   ay (
     if decide ((eH.length:Int)≤at2) then
      some true
     else
      ay (idx eH at2) fun e1=>
      ay (H_ e1) fun x2=>
      some (!x2)) fun b1=>
   if b1 then
    ay (kD eH at2) fun x3=>
    some ([],[],at2,x3)
   else
    ay (idx eH at2) fun e2=>
    ay (app qD ([e2.text]:List Str)) fun ads=>
    ay (oL eH (bL (at2 + 1)) ([58]:Str)) fun x4=>
    if !x4 then
     ay (kD eH (bL (at2 + 1))) fun x5=>
     some ([],[],(bL (at2 + 1)),x5)
    else
     j_ (bg eH (bL ((bL (at2 + 1)) + 1))) fun x6 iR e3=>
     if e3 != 0 then
      some ([],[],iR,e3)
     else
      ay (app l1 [x6]) fun l2=>
      ay (oL eH iR o_) fun x7=>
      if x7 then
       some (l2,ads,(bL (iR + 1)),0)
      else
       ay (oL eH iR ([44]:Str)) fun x8=>
       if !x8 then
        ay (kD eH iR) fun x9=>
        some ([],[],iR,x9)
       else
        nI bg eH o_ rJ dQ (bL (iR + 1)) l2 ads
  else
   j_ (bg eH at2) fun KQ xP e4=>
   if e4 != 0 then
    some ([],[],xP,e4)
   else
    ay (app l1 [KQ]) fun l3=>
    ay (oL eH xP o_) fun PO=>
    if PO then
     some (l3,qD,(bL (xP + 1)),0)
    else
     ay (oL eH xP ([44]:Str)) fun Rl=>
     if !Rl then
      ay (kD eH xP) fun Wt=>
      some ([],[],xP,Wt)
     else
      nI bg eH o_ rJ dQ (bL (xP + 1)) l3 qD
def Ac (bg:List aA→Int→Option (ah × Int × Int)) (bO:List aA→Int→Int→Option (ah × Int × Int)) (eP:List aA→Int→Option (ah × Int × Int)) (fD:List aA→Int→Option (ah × Int × Int)) (gD:List aA→Int→Option (ah × Int × Int)) (gB:List aA→Int→Option (ah × Int × Int)) (fF:List aA→Int→Str→Bool→Option (List ah × List Str × Int × Int)) (dM:List aA→Int→Option (ah × Int × Int)) (eH:List aA) (bK:Int) (o_:Str) (rJ:Bool):Option (List ah × List Str × Int × Int):=
 ay (oL eH bK o_) fun x1=>
 if x1 then
  some ([],[],(bL (bK + 1)),0)
 else
  nI bg eH o_ rJ BIG bK [] []
def vg (bg:List aA→Int→Option (ah × Int × Int)) (bO:List aA→Int→Int→Option (ah × Int × Int)) (eP:List aA→Int→Option (ah × Int × Int)) (fD:List aA→Int→Option (ah × Int × Int)) (gD:List aA→Int→Option (ah × Int × Int)) (gB:List aA→Int→Option (ah × Int × Int)) (fF:List aA→Int→Str→Bool→Option (List ah × List Str × Int × Int)) (dM:List aA→Int→Option (ah × Int × Int)) (eH:List aA) (bK:Int):Option (ah × Int × Int):=
 ay (idx eH bK) fun e1=>
 if e1.text == ([40]:Str) then
  j_ (bg eH (bL (bK + 1))) fun x1 iR e2=>
  ay (
    if e2 == 0 then
     ay (oL eH iR ([41]:Str)) fun x2=>
     some (!x2)
    else
     some false) fun b1=>
  if b1 then
   ay (kD eH iR) fun e3=>
   if e3 != 0 then
    some ((ah.mk 0 ([]:Str) (av.mk 0 false 0 ([]:Str) [] []) [] []),iR,e3)
   else
    some (x1,(bL (iR + 1)),0)
  else
   if e2 != 0 then
    some ((ah.mk 0 ([]:Str) (av.mk 0 false 0 ([]:Str) [] []) [] []),iR,e2)
   else
    some (x1,(bL (iR + 1)),0)
 else
  if e1.text == ([91]:Str) then
   Gg (fF eH (bL (bK + 1)) ([93]:Str) false) fun l1 x3 xP e4=>
   some ((ah.mk 9 ([]:Str) (av.mk 0 false 0 ([]:Str) [] []) l1 []),xP,e4)
  else
   if e1.text == ([123]:Str) then
    Gg (fF eH (bL (bK + 1)) ([125]:Str) true) fun l2 qD ag2 e5=>
    some ((ah.mk 10 ([]:Str) (av.mk 0 false 0 ([]:Str) [] []) l2 qD),ag2,e5)
   else
    some ((ah.mk 0 ([]:Str) (av.mk 0 false 0 ([]:Str) [] []) [] []),bK,5)
mutual
def bX :Nat→List aA→Int→Option (ah × Int × Int)
 | 0,_,_=>none
 | k + 1,dG,dI=>tY (bX k) (dn k) (iw k) (jg k) (jT k) (kQ k) (gI k) (iJ k) dG dI
def dn :Nat→List aA→Int→Int→Option (ah × Int × Int)
 | 0,_,_,_=>none
 | k + 1,dG,dI,jI=>p9 (bX k) (dn k) (iw k) (jg k) (jT k) (kQ k) (gI k) (iJ k) dG dI jI
def iw :Nat→List aA→Int→Option (ah × Int × Int)
 | 0,_,_=>none
 | k + 1,dG,dI=>Bc (bX k) (dn k) (iw k) (jg k) (jT k) (kQ k) (gI k) (iJ k) dG dI
def jg :Nat→List aA→Int→Option (ah × Int × Int)
 | 0,_,_=>none
 | k + 1,dG,dI=>Bg (bX k) (dn k) (iw k) (jg k) (jT k) (kQ k) (gI k) (iJ k) dG dI
def jT :Nat→List aA→Int→Option (ah × Int × Int)
 | 0,_,_=>none
 | k + 1,dG,dI=>Di (bX k) (dn k) (iw k) (jg k) (jT k) (kQ k) (gI k) (iJ k) dG dI
def kQ :Nat→List aA→Int→Option (ah × Int × Int)
 | 0,_,_=>none
 | k + 1,dG,dI=>Ab (bX k) (dn k) (iw k) (jg k) (jT k) (kQ k) (gI k) (iJ k) dG dI
def gI :Nat→List aA→Int→Str→Bool→Option (List ah × List Str × Int × Int)
 | 0,_,_,_,_=>none
 | k + 1,dG,dI,kN,kM=>Ac (bX k) (dn k) (iw k) (jg k) (jT k) (kQ k) (gI k) (iJ k) dG dI kN kM
def iJ :Nat→List aA→Int→Option (ah × Int × Int)
 | 0,_,_=>none
 | k + 1,dG,dI=>vg (bX k) (dn k) (iw k) (jg k) (jT k) (kQ k) (gI k) (iJ k) dG dI
end
def BL (dG:List aA) (dI:Int):Option (ah × Int × Int):=bX BIG dG dI
def NU (dG:List aA) (dI:Int) (jI:Int):Option (ah × Int × Int):=dn BIG dG dI jI
def WS (dG:List aA) (dI:Int):Option (ah × Int × Int):=iw BIG dG dI
def WT (dG:List aA) (dI:Int):Option (ah × Int × Int):=jg BIG dG dI
def Y7 (dG:List aA) (dI:Int):Option (ah × Int × Int):=jT BIG dG dI
def Y5 (dG:List aA) (dI:Int):Option (ah × Int × Int):=kQ BIG dG dI
def Y6 (dG:List aA) (dI:Int) (kN:Str) (kM:Bool):Option (List ah × List Str × Int × Int):=gI BIG dG dI kN kM
def Qh (dG:List aA) (dI:Int):Option (ah × Int × Int):=iJ BIG dG dI
def vo (lW:ah→Option Int) (e1:ah):Nat→Int→Int→Option Int
 | 0,_,_=>none
 | dQ + 1,n1,i1=>
  if decide (i1 < (e1.args.length:Int)) then
   ay (idx e1.args i1) fun e2=>
   ay (lW e2) fun x1=>
   vo lW e1 dQ (bL (n1 + x1)) (bL (i1 + 1))
  else
   some n1
def Bh (lW:ah→Option Int) (e1:ah):Option Int:=
 vo lW e1 BIG 1 0
def qW :Nat→ah→Option Int
 | 0,_=>none
 | k + 1,iF=>Bh (qW k) iF
def Fu (iF:ah):Option Int:=qW BIG iF
def Cm (e1:ah):Option Bool:=
 if e1.kind == 1 then
  some ((e1.args.length:Int) == 0)
 else
  if e1.kind == 2 then
   some ((e1.args.length:Int) == 0)
  else
   if e1.kind == 3 then
    some ((e1.args.length:Int) == 1)
   else
    if e1.kind == 6 then
     some ((e1.args.length:Int) == 1)
    else
     if e1.kind == 4 then
      some ((e1.args.length:Int) == 2)
     else
      if e1.kind == 7 then
       some ((e1.args.length:Int) == 2)
      else
       if e1.kind == 8 then
        some ((e1.args.length:Int) == 3)
       else
        some (((e1.kind == 5) || (e1.kind == 9)) || (e1.kind == 10))
def Ck (e1:ah):Option Bool:=
 if e1.kind == 2 then
  oM e1.name
 else
  if e1.kind == 3 then
   oM e1.name
  else
   if e1.kind == 5 then
    oM e1.name
   else
    if e1.kind == 6 then
     some ((e1.name == ([33]:Str)) || (e1.name == ([45]:Str)))
    else
     if e1.kind == 7 then
      ay (rV e1.name) fun x4=>
      some (decide (0 < x4))
     else
      some (e1.name == ([]:Str))
def xJ (jk:av→av→Option Bool) (a1:av) (b1:av):Nat→Int→Option Bool
 | 0,_=>none
 | Ul + 1,i2=>
  if decide (i2 < (a1.dh.length:Int)) then
   ay (idx a1.dh i2) fun e3=>
   ay (idx b1.dh i2) fun e4=>
   ay (jk e3 e4) fun x1=>
   if !x1 then
    some false
   else
    xJ jk a1 b1 Ul (bL (i2 + 1))
  else
   some true
def xK (jk:av→av→Option Bool) (a1:av) (b1:av):Nat→Int→Option Bool
 | 0,_=>none
 | dQ + 1,i1=>
  if decide (i1 < (a1.keys.length:Int)) then
   ay (idx a1.keys i1) fun e1=>
   ay (idx b1.keys i1) fun e2=>
   if !(e1 == e2) then
    some false
   else
    xK jk a1 b1 dQ (bL (i1 + 1))
  else
   xJ jk a1 b1 BIG 0
def Dk (jk:av→av→Option Bool) (a1:av) (b1:av):Option Bool:=
 if (((((a1.kind != b1.kind) || (!(a1.lJ == b1.lJ))) || (a1.mZ != b1.mZ)) || (!(a1.pF == b1.pF))) || ((a1.dh.length:Int) != (b1.dh.length:Int))) || ((a1.keys.length:Int) != (b1.keys.length:Int)) then
  some false
 else
  xK jk a1 b1 BIG 0
def Dj :Nat→av→av→Option Bool
 | 0,_,_=>none
 | k + 1,zX,zW=>Dk (Dj k) zX zW
def Ie (zX:av) (zW:av):Option Bool:=Dj BIG zX zW
def qo (e1:ah):Nat→Int→Option Bool
 | 0,_=>none
 | dQ + 1,i1=>
  if decide (i1 < (e1.keys.length:Int)) then
   ay (idx e1.keys i1) fun e2=>
   ay (
     if decide ((e2.length:Int) < 1) then
      some true
     else
      ay (idx e1.keys i1) fun e3=>
      some (decide (64 < (e3.length:Int)))) fun b4=>
   if b4 then
    some false
   else
    qo e1 dQ (bL (i1 + 1))
  else
   some ((e1.keys.length:Int) == (e1.args.length:Int))
def Ad (e1:ah):Option Bool:=
 ay (Cm e1) fun x1=>
 ay (
   if !x1 then
    some true
   else
    ay (Ck e1) fun x2=>
    some (!x2)) fun b1=>
 ay (
   if b1 then
    some true
   else
    if e1.kind != 1 then
     ay (Ie e1.value (av.mk 0 false 0 ([]:Str) [] [])) fun x3=>
     some (!x3)
    else
     some false) fun b2=>
 if b2 then
  some false
 else
  if e1.kind != 10 then
   some ((e1.keys.length:Int) == 0)
  else
   qo e1 BIG 0
def Cu (v1:av):Option Bool:=
 if ((v1.lJ && (v1.kind != 1)) || ((v1.mZ != 0) && (v1.kind != 2))) || ((!(v1.pF == ([]:Str))) && (v1.kind != 3)) then
  some false
 else
  if ((decide (0 < (v1.dh.length:Int))) && (v1.kind != 4)) && (v1.kind != 5) then
   some false
  else
   some (((v1.keys.length:Int) == 0) || (v1.kind == 5))
def Ic (s1:Str):Option Bool:=
 some ((decide (1≤(s1.length:Int))) && (decide ((s1.length:Int)≤64)))
def rZ (VD:Bool) (IC:Bool):Option Int:=
 if VD then
  some (-1)
 else
  if IC then
   some 1
  else
   some 0
def zH (c1:UInt8):Option Bool:=
 some ((decide (48≤(c1.toNat:Int))) && (decide ((c1.toNat:Int)≤57)))
def Ah (s1:Str):Nat→Int→Option Int
 | 0,_=>none
 | dQ + 1,at2=>
  ay (
    if decide (at2 < (s1.length:Int)) then
     ay (idx s1 at2) fun x1=>
     zH x1
    else
     some false) fun b1=>
  if b1 then
   Ah s1 dQ (bL (at2 + 1))
  else
   some at2
def Ig (s1:Str) (bK:Int):Option Int:=
 Ah s1 BIG bK
def rY (s1:Str):Nat→Int→Option Str
 | 0,_=>none
 | dQ + 1,i1=>
  ay (
    if decide (i1 < (s1.length:Int)) then
     ay (idx s1 i1) fun x1=>
     some ((x1.toNat:Int) == 48)
    else
     some false) fun b1=>
  if b1 then
   rY s1 dQ (bL (i1 + 1))
  else
   sl s1 i1 (s1.length:Int)
def zG (s1:Str):Option Str:=
 rY s1 BIG 0
def EA (a1:Str) (b1:Str):Option Int:=
 ay (zG a1) fun x1=>
 ay (zG b1) fun y1=>
 if (x1.length:Int) != (y1.length:Int) then
  rZ (decide ((x1.length:Int) < (y1.length:Int))) (decide ((y1.length:Int) < (x1.length:Int)))
 else
  if !(x1 == y1) then
   rZ (Go.Op.bytesLess x1 y1) (!(Go.Op.bytesLess x1 y1 || x1 == y1))
  else
   rZ (decide ((a1.length:Int) < (b1.length:Int))) (decide ((b1.length:Int) < (a1.length:Int)))
def kY (a1:Str) (b1:Str):Nat→Int→Int→Option Int
 | 0,_,_=>none
 | dQ + 1,i1,yw=>
  if (decide (i1 < (a1.length:Int))) && (decide (yw < (b1.length:Int))) then
   ay (idx a1 i1) fun x1=>
   ay (idx b1 yw) fun x2=>
   ay (idx a1 i1) fun x3=>
   ay (idx b1 yw) fun x4=>
   ay (rZ (decide ((x1.toNat:Int) < (x2.toNat:Int))) (decide ((x4.toNat:Int) < (x3.toNat:Int)))) fun c1=>
   ay (idx a1 i1) fun x5=>
   ay (zH x5) fun x6=>
   ay (
     if x6 then
      ay (idx b1 yw) fun x7=>
      zH x7
     else
      some false) fun b2=>
   if b2 then
    ay (Ig a1 i1) fun m1=>
    ay (Ig b1 yw) fun n1=>
    ay (sl a1 i1 m1) fun x9=>
    ay (sl b1 yw n1) fun KQ=>
    ay (EA x9 KQ) fun c2=>
    if c2 != 0 then
     some c2
    else
     kY a1 b1 dQ m1 n1
   else
    if c1 != 0 then
     some c1
    else
     kY a1 b1 dQ (bL (i1 + 1)) (bL (yw + 1))
  else
   rZ (decide (yw < (b1.length:Int))) (decide (i1 < (a1.length:Int)))
def nK (a1:Str) (b1:Str):Option Int:=
 kY a1 b1 BIG 0 0
def mF (v1:av):Nat→Int→Option Bool
 | 0,_=>none
 | dQ + 1,i1=>
  if decide (i1 < (v1.keys.length:Int)) then
   ay (idx v1.keys i1) fun e1=>
   ay (Ic e1) fun x1=>
   ay (
     if !x1 then
      some true
     else
      if decide (0 < i1) then
       ay (idx v1.keys (bL (i1 - 1))) fun e2=>
       ay (idx v1.keys i1) fun e3=>
       ay (nK e2 e3) fun x2=>
       some (decide (0≤x2))
      else
       some false) fun b1=>
   if b1 then
    some false
   else
    mF v1 dQ (bL (i1 + 1))
  else
   some ((v1.keys.length:Int) == (v1.dh.length:Int))
def tC (v1:av):Option Bool:=
 mF v1 BIG 0
def vB (lX:av→Int→Option Int) (v1:av) (bG:Int):Nat→Int→Option Int
 | 0,_=>none
 | dQ + 1,i1=>
  if decide (i1 < (v1.dh.length:Int)) then
   ay (idx v1.dh i1) fun e1=>
   ay (lX e1 (bL (bG + 1))) fun e2=>
   if e2 != 0 then
    some e2
   else
    vB lX v1 bG dQ (bL (i1 + 1))
  else
   some 0
def Bl (lX:av→Int→Option Int) (v1:av) (bG:Int):Option Int:=
 if decide (16 < bG) then
  some 13
 else
  ay (
    if (decide (v1.kind < 0)) || (decide (5 < v1.kind)) then
     some true
    else
     ay (Cu v1) fun x1=>
     some (!x1)) fun b1=>
  if b1 then
   some 1
  else
   if (decide (v1.mZ < (-9007199254740992))) || (decide (9007199254740992 < v1.mZ)) then
    some 2
   else
    if ((decide (4096 < (v1.pF.length:Int))) || (decide (1024 < (v1.dh.length:Int)))) || (decide (1024 < (v1.keys.length:Int))) then
     some 3
    else
     ay (
       if v1.kind == 5 then
        ay (tC v1) fun x2=>
        some (!x2)
       else
        some false) fun b2=>
     if b2 then
      some 1
     else
      if ((decide (4≤v1.kind)) && ((v1.dh.length:Int) == 0)) && (bG == 16) then
       some 13
      else
       vB lX v1 bG BIG 0
def ru :Nat→av→Int→Option Int
 | 0,_,_=>none
 | k + 1,pI,b_=>Bl (ru k) pI b_
def Jk (pI:av) (b_:Int):Option Int:=ru BIG pI b_
def zF (v1:av):Option Int:=
 Jk v1 1
def rU (qD:List Str) (i1:Int) (qh:Int→Option Bool):Nat→Int→Option Bool
 | 0,_=>none
 | Ul + 1,yw=>
  if decide (yw < i1) then
   ay (idx qD i1) fun e1=>
   ay (idx qD yw) fun e2=>
   if e1 == e2 then
    some true
   else
    rU qD i1 qh Ul (bL (yw + 1))
  else
   qh (bL (i1 + 1))
def pK (qD:List Str):Nat→Int→Option Bool
 | 0,_=>none
 | dQ + 1,i1=>
  if decide (i1 < (qD.length:Int)) then
   rU qD i1 (pK qD dQ) BIG 0
  else
   some false
def Cj (qD:List Str):Option Bool:=
 pK qD BIG 0
def vk (lV:ah→Int→Option Int) (e1:ah) (bG:Int):Nat→Int→Option Int
 | 0,_=>none
 | dQ + 1,i1=>
  if decide (i1 < (e1.args.length:Int)) then
   ay (idx e1.args i1) fun e2=>
   ay (lV e2 (bL (bG + 1))) fun f2=>
   if f2 != 0 then
    some f2
   else
    vk lV e1 bG dQ (bL (i1 + 1))
  else
   some 0
def Bf (lV:ah→Int→Option Int) (e1:ah) (bG:Int):Option Int:=
 if decide (16 < bG) then
  some 13
 else
  ay (Ad e1) fun x1=>
  if !x1 then
   some 1
  else
   ay (zF e1.value) fun f1=>
   if (e1.kind == 1) && (f1 != 0) then
    some f1
   else
    if decide (1024 < (e1.args.length:Int)) then
     some 3
    else
     ay (Cj e1.keys) fun x2=>
     if x2 then
      some 7
     else
      vk lV e1 bG BIG 0
def qV :Nat→ah→Int→Option Int
 | 0,_,_=>none
 | k + 1,iF,b_=>Bf (qV k) iF b_
def Jj (iF:ah) (b_:Int):Option Int:=qV BIG iF b_
def zD (e1:ah):Option Int:=
 ay (Fu e1) fun x1=>
 if decide (4096 < x1) then
  some 15
 else
  Jj e1 1
def Ew (eH:List aA):Option (ah × Int × Int):=
 j_ (BL eH 0) fun x1 bK e1=>
 if e1 != 0 then
  some ((ah.mk 0 ([]:Str) (av.mk 0 false 0 ([]:Str) [] []) [] []),bK,e1)
 else
  ay (zD x1) fun f1=>
  if f1 != 0 then
   some ((ah.mk 0 ([]:Str) (av.mk 0 false 0 ([]:Str) [] []) [] []),0,f1)
  else
   some (x1,bK,0)
def Cn (aZ:Str):Option (ah × Int × Int):=
 j_ (qX aZ) fun eH bK e1=>
 if e1 != 0 then
  some ((ah.mk 0 ([]:Str) (av.mk 0 false 0 ([]:Str) [] []) [] []),bK,e1)
 else
  j_ (Ew eH) fun x1 n1 e2=>
  if (e2 == 0) && (n1 == (eH.length:Int)) then
   some (x1,0,0)
  else
   if e2 == 0 then
    if decide (n1 < (eH.length:Int)) then
     ay (idx eH n1) fun e3=>
     some ((ah.mk 0 ([]:Str) (av.mk 0 false 0 ([]:Str) [] []) [] []),e3.at_,5)
    else
     some ((ah.mk 0 ([]:Str) (av.mk 0 false 0 ([]:Str) [] []) [] []),(aZ.length:Int),5)
   else
    if decide (n1 < (eH.length:Int)) then
     ay (idx eH n1) fun e4=>
     some ((ah.mk 0 ([]:Str) (av.mk 0 false 0 ([]:Str) [] []) [] []),e4.at_,e2)
    else
     some ((ah.mk 0 ([]:Str) (av.mk 0 false 0 ([]:Str) [] []) [] []),(aZ.length:Int),e2)
def lM (s1:Str):Nat→List aK→Int→Option (List aK × Int × Int)
 | 0,_,_=>none
 | dQ + 1,l1,bK=>
  if decide (bK < (s1.length:Int)) then
   ay (idx s1 bK) fun x1=>
   ay (
     if ((x1.toNat:Int) != 36) || (decide ((s1.length:Int)≤(bL (bK + 1)))) then
      some true
     else
      ay (idx s1 (bL (bK + 1))) fun x2=>
      if (x2.toNat:Int) != 36 then
       ay (idx s1 (bL (bK + 1))) fun x3=>
       some ((x3.toNat:Int) != 123)
      else
       some false) fun b1=>
   if b1 then
    ay (idx s1 bK) fun c1=>
    ay (z_ l1 c1) fun l2=>
    lM s1 dQ l2 (bL (bK + 1))
   else
    ay (idx s1 (bL (bK + 1))) fun x4=>
    if (x4.toNat:Int) == 36 then
     ay (z_ l1 36) fun l2=>
     lM s1 dQ l2 (bL (bK + 2))
    else
     ay (Ba s1 (bL (bK + 2))) fun ql=>
     if decide (ql < 0) then
      some ([],bK,4)
     else
      ay (sl s1 (bL (bK + 2)) ql) fun x5=>
      j_ (Cn x5) fun x6 yw e1=>
      if e1 != 0 then
       some ([],(bL ((bL (bK + 2)) + yw)),e1)
      else
       ay (app l1 [(aK.mk ([]:Str) true x6)]) fun l2=>
       lM s1 dQ l2 (bL (ql + 1))
  else
   some (l1,0,0)
def zC (s1:Str):Option (List aK × Int × Int):=
 if decide (4096 < (s1.length:Int)) then
  some ([],0,3)
 else
  lM s1 BIG [] 0
def u_ (gV:ah→Option (List Str)) (e1:ah):Nat→List Str→Int→Option (List Str)
 | 0,_,_=>none
 | dQ + 1,l2,i1=>
  if decide (i1 < (e1.args.length:Int)) then
   ay (idx e1.args i1) fun e2=>
   ay (gV e2) fun x1=>
   ay (app l2 x1) fun l3=>
   u_ gV e1 dQ l3 (bL (i1 + 1))
  else
   some l2
def u7 (gV:ah→Option (List Str)) (e1:ah):Nat→List Str→Int→Option (List Str)
 | 0,_,_=>none
 | Ul + 1,l4,i2=>
  if decide (i2 < (e1.args.length:Int)) then
   ay (idx e1.args i2) fun e3=>
   ay (gV e3) fun x2=>
   ay (app l4 x2) fun l5=>
   u7 gV e1 Ul l5 (bL (i2 + 1))
  else
   some l4
def Bb (gV:ah→Option (List Str)) (e1:ah):Option (List Str):=
 if e1.kind == 2 then
  ay (app [] ([e1.name]:List Str)) fun l1=>
  u_ gV e1 BIG l1 0
 else
  u7 gV e1 BIG [] 0
def l8 :Nat→ah→Option (List Str)
 | 0,_=>none
 | k + 1,iF=>Bb (l8 k) iF
def Ji (iF:ah):Option (List Str):=l8 BIG iF
def oo (kF:List Str) (dx:List Str) (i1:Int) (wR:List Str→Int→Option (List Str)):Nat→Int→Option (List Str)
 | 0,_=>none
 | Ul + 1,bK=>
  ay (
    if decide (0 < bK) then
     ay (idx kF i1) fun e1=>
     ay (idx dx (bL (bK - 1))) fun e2=>
     ay (nK e1 e2) fun x1=>
     some (decide (x1 < 0))
    else
     some false) fun b1=>
  if b1 then
   oo kF dx i1 wR Ul (bL (bK - 1))
  else
   ay (
     if decide (0 < bK) then
      ay (idx dx (bL (bK - 1))) fun e3=>
      ay (idx kF i1) fun e4=>
      some (e3 == e4)
     else
      some false) fun b2=>
   if b2 then
    wR dx (bL (i1 + 1))
   else
    ay (sl dx 0 bK) fun x2=>
    ay (app [] x2) fun iR=>
    ay (idx kF i1) fun e5=>
    ay (app iR ([e5]:List Str)) fun xP=>
    ay (sl dx bK (dx.length:Int)) fun x3=>
    ay (app xP x3) fun wE=>
    wR wE (bL (i1 + 1))
def mg (kF:List Str):Nat→List Str→Int→Option (List Str)
 | 0,_,_=>none
 | dQ + 1,dx,i1=>
  if decide (i1 < (kF.length:Int)) then
   oo kF dx i1 (mg kF dQ) BIG (dx.length:Int)
  else
   some dx
def pQ (kF:List Str):Option (List Str):=
 mg kF BIG [] 0
def wK (e1:ah):Option (List Str):=
 ay (Ji e1) fun x1=>
 pQ x1
def u6 (l1:List aK):Nat→List Str→Int→Option (List Str × Int)
 | 0,_,_=>none
 | dQ + 1,dx,i1=>
  if decide (i1 < (l1.length:Int)) then
   ay (idx l1 i1) fun e2=>
   ay (wK e2.expr) fun x2=>
   ay (app dx x2) fun wE=>
   u6 l1 dQ wE (bL (i1 + 1))
  else
   ay (pQ dx) fun x3=>
   some (x3,0)
def Cg (s1:Str):Option (List Str × Int):=
 j_ (zC s1) fun l1 x1 e1=>
 if e1 != 0 then
  some ([],e1)
 else
  u6 l1 BIG [] 0
def wN (dB:Int):Option Bool:=
 some ((dB == 5) || (dB == 6))
def Bj (zi:au→Int→Option Int) (t1:au) (bG:Int):Option Int:=
 if decide (16 < bG) then
  some 13
 else
  if (decide (t1.kind < 0)) || (decide (7 < t1.kind)) then
   some 1
  else
   ay (wN t1.kind) fun x1=>
   if !x1 then
    if decide (0 < (t1.elem.length:Int)) then
     some 1
    else
     some 0
   else
    if (t1.elem.length:Int) != 1 then
     some 1
    else
     ay (idx t1.elem 0) fun e1=>
     zi e1 (bL (bG + 1))
def xI :Nat→au→Int→Option Int
 | 0,_,_=>none
 | k + 1,um,b_=>Bj (xI k) um b_
def O6 (um:au) (b_:Int):Option Int:=xI BIG um b_
def rW (t1:au):Option Int:=
 O6 t1 1
def wL (bM:List aO) (i1:Int) (tL:Int→Option Int):Nat→Int→Option Int
 | 0,_=>none
 | Ul + 1,yw=>
  if decide (yw < i1) then
   ay (idx bM yw) fun e4=>
   ay (idx bM i1) fun e5=>
   if e4.name == e5.name then
    some 7
   else
    wL bM i1 tL Ul (bL (yw + 1))
  else
   tL (bL (i1 + 1))
def uw (bM:List aO):Nat→Int→Option Int
 | 0,_=>none
 | dQ + 1,i1=>
  if decide (i1 < (bM.length:Int)) then
   ay (idx bM i1) fun e1=>
   ay (oM e1.name) fun x1=>
   if !x1 then
    some 1
   else
    ay (idx bM i1) fun e2=>
    ay (rW e2.nG) fun e3=>
    if e3 != 0 then
     some e3
    else
     wL bM i1 (uw bM dQ) BIG 0
  else
   some 0
def Fq (bM:List aO):Option Int:=
 if decide (1024 < (bM.length:Int)) then
  some 3
 else
  uw bM BIG 0
def jm (dB:Int):Option au:=
 some (au.mk dB [])
def iK (dB:Int) (t1:au):Option au:=
 some (au.mk dB [t1])
def uy (Bv:au→au→Option au) (a1:au) (b1:au):Option au:=
 if a1.kind == 7 then
  some b1
 else
  if b1.kind == 7 then
   some a1
  else
   if a1.kind != b1.kind then
    jm 0
   else
    ay (wN a1.kind) fun x2=>
    if x2 then
     ay (idx a1.elem 0) fun e1=>
     ay (idx b1.elem 0) fun e2=>
     ay (Bv e1 e2) fun x3=>
     iK a1.kind x3
    else
     some a1
def qZ :Nat→au→au→Option au
 | 0,_,_=>none
 | k + 1,zX,zW=>uy (qZ k) zX zW
def Ez (zX:au) (zW:au):Option au:=qZ BIG zX zW
def Ct (sw:av→Option au) (v1:av):Nat→Int→au→Option au
 | 0,_,_=>none
 | dQ + 1,i1,t1=>
  if decide (i1 < (v1.dh.length:Int)) then
   ay (idx v1.dh i1) fun e1=>
   ay (sw e1) fun x6=>
   ay (Ez t1 x6) fun x7=>
   Ct sw v1 dQ (bL (i1 + 1)) x7
  else
   if v1.kind == 5 then
    iK 6 t1
   else
    iK 5 t1
def Ia (sw:av→Option au) (v1:av):Option au:=
 if v1.kind == 0 then
  jm 1
 else
  if v1.kind == 1 then
   jm 2
  else
   if v1.kind == 2 then
    jm 3
   else
    if v1.kind == 3 then
     jm 4
    else
     ay (jm 7) fun x5=>
     Ct sw v1 BIG 0 x5
def Ag :Nat→av→Option au
 | 0,_=>none
 | k + 1,pI=>Ia (Ag k) pI
def TY (pI:av):Option au:=Ag BIG pI
def LY (v1:av):Option au:=
 ay (zF v1) fun x1=>
 if x1 != 0 then
  jm 0
 else
  TY v1
def xF (e1:ah) (bM:List aO):Nat→Int→Option (au × Int)
 | 0,_=>none
 | dQ + 1,i1=>
  if decide (i1 < (bM.length:Int)) then
   ay (idx bM i1) fun e2=>
   if e2.name == e1.name then
    ay (idx bM i1) fun e3=>
    some (e3.nG,0)
   else
    xF e1 bM dQ (bL (i1 + 1))
  else
   some ((au.mk 0 []),10)
def Ci (e1:ah) (bM:List aO):Option (au × Int):=
 if e1.kind == 1 then
  ay (LY e1.value) fun x1=>
  some (x1,0)
 else
  xF e1 bM BIG 0
def qR (name1:Str):Option Int:=
 if name1 == ([108,101,110]:Str) then
  some 1
 else
  if name1 == ([108,111,119,101,114]:Str) then
   some 1
  else
   if name1 == ([117,112,112,101,114]:Str) then
    some 1
   else
    if name1 == ([115,116,114,105,110,103]:Str) then
     some 1
    else
     if name1 == ([105,110,116]:Str) then
      some 1
     else
      if name1 == ([107,101,121,115]:Str) then
       some 1
      else
       if name1 == ([99,111,110,116,97,105,110,115]:Str) then
        some 2
       else
        if name1 == ([106,111,105,110]:Str) then
         some 2
        else
         if name1 == ([115,112,108,105,116]:Str) then
          some 2
         else
          if name1 == ([115,116,97,114,116,115,119,105,116,104]:Str) then
           some 2
          else
           if name1 == ([101,110,100,115,119,105,116,104]:Str) then
            some 2
           else
            if name1 == ([100,101,102,97,117,108,116]:Str) then
             some 2
            else
             some (-1)
def fE (t1:au):Option Bool:=
 some ((t1.kind == 0) || (t1.kind == 7))
def eB (dB:Int):Option au:=
 jm dB
def kP (qE:au→au→Option Bool) (t1:au) (u1:au):Option Bool:=
 ay (fE t1) fun x1=>
 if x1 || (u1.kind == 0) then
  some true
 else
  if t1.kind != u1.kind then
   some false
  else
   if (t1.elem.length:Int) == 0 then
    some true
   else
    ay (idx t1.elem 0) fun e1=>
    ay (idx u1.elem 0) fun e2=>
    qE e1 e2
def jN :Nat→au→au→Option Bool
 | 0,_,_=>none
 | k + 1,um,Gs=>kP (jN k) um Gs
def fA (um:au) (Gs:au):Option Bool:=jN BIG um Gs
def gH (t1:au) (dB:Int):Option Bool:=
 ay (eB dB) fun x1=>
 fA t1 x1
def Fp (a1:au) (b1:au):Option (au × Bool):=
 if a1.kind == 5 then
  ay (idx a1.elem 0) fun e1=>
  ay (gH b1 3) fun x1=>
  some (e1,x1)
 else
  if a1.kind == 6 then
   ay (idx a1.elem 0) fun e2=>
   ay (gH b1 4) fun x2=>
   some (e2,x2)
  else
   ay (fE a1) fun x3=>
   ay (
     if x3 then
      ay (gH b1 3) fun x4=>
      if x4 then
       some true
      else
       gH b1 4
     else
      some false) fun b2=>
   some (a1,b2)
def wJ (dB:Int):Option au:=
 ay (eB 0) fun x1=>
 iK dB x1
def kX (name1:Str) (l1:List au):Option (au × Bool):=
 ay (eB 4) fun x1=>
 if name1 == ([108,101,110]:Str) then
  ay (eB 3) fun x2=>
  ay (idx l1 0) fun e1=>
  ay (gH e1 4) fun x3=>
  ay (
    if x3 then
     some true
    else
     ay (idx l1 0) fun e2=>
     ay (wJ 5) fun x4=>
     fA e2 x4) fun b1=>
  ay (
    if b1 then
     some true
    else
     ay (idx l1 0) fun e3=>
     ay (wJ 6) fun x6=>
     fA e3 x6) fun b2=>
  some (x2,b2)
 else
  if name1 == ([99,111,110,116,97,105,110,115]:Str) then
   ay (eB 2) fun x8=>
   ay (idx l1 0) fun e4=>
   ay (wJ 5) fun x9=>
   ay (fA e4 x9) fun KQ=>
   ay (
     if KQ then
      some true
     else
      ay (idx l1 1) fun e5=>
      ay (gH e5 4) fun PO=>
      if PO then
       ay (idx l1 0) fun e6=>
       ay (gH e6 4) fun Rl=>
       if Rl then
        some true
       else
        ay (idx l1 0) fun e7=>
        ay (wJ 6) fun Wt=>
        fA e7 Wt
      else
       some false) fun b3=>
   some (x8,b3)
  else
   if name1 == ([106,111,105,110]:Str) then
    ay (idx l1 0) fun e8=>
    ay (iK 5 x1) fun Ws=>
    ay (fA e8 Ws) fun PN=>
    ay (
      if PN then
       ay (idx l1 1) fun e9=>
       gH e9 4
      else
       some false) fun b6=>
    some (x1,b6)
   else
    if name1 == ([115,112,108,105,116]:Str) then
     ay (iK 5 x1) fun x18=>
     ay (idx l1 0) fun e10=>
     ay (gH e10 4) fun x19=>
     ay (
       if x19 then
        ay (idx l1 1) fun e11=>
        gH e11 4
       else
        some false) fun b7=>
     some (x18,b7)
    else
     if name1 == ([108,111,119,101,114]:Str) then
      ay (idx l1 0) fun e12=>
      ay (gH e12 4) fun x21=>
      some (x1,x21)
     else
      if name1 == ([117,112,112,101,114]:Str) then
       ay (idx l1 0) fun e13=>
       ay (gH e13 4) fun x22=>
       some (x1,x22)
      else
       if name1 == ([115,116,97,114,116,115,119,105,116,104]:Str) then
        ay (eB 2) fun x23=>
        ay (idx l1 0) fun e14=>
        ay (gH e14 4) fun x24=>
        ay (
          if x24 then
           ay (idx l1 1) fun e15=>
           gH e15 4
          else
           some false) fun b8=>
        some (x23,b8)
       else
        if name1 == ([101,110,100,115,119,105,116,104]:Str) then
         ay (eB 2) fun x26=>
         ay (idx l1 0) fun e16=>
         ay (gH e16 4) fun x27=>
         ay (
           if x27 then
            ay (idx l1 1) fun e17=>
            gH e17 4
           else
            some false) fun b9=>
         some (x26,b9)
        else
         if name1 == ([115,116,114,105,110,103]:Str) then
          ay (idx l1 0) fun e18=>
          ay (
            if e18.kind != 5 then
             ay (idx l1 0) fun e19=>
             some (e19.kind != 6)
            else
             some false) fun b10=>
          some (x1,b10)
         else
          if name1 == ([105,110,116]:Str) then
           ay (eB 3) fun x29=>
           ay (idx l1 0) fun e20=>
           ay (gH e20 4) fun x30=>
           some (x29,x30)
          else
           if name1 == ([107,101,121,115]:Str) then
            ay (iK 5 x1) fun x31=>
            ay (idx l1 0) fun e21=>
            ay (wJ 6) fun x32=>
            ay (fA e21 x32) fun x33=>
            some (x31,x33)
           else
            ay (idx l1 0) fun e22=>
            if e22.kind == 1 then
             ay (idx l1 1) fun e23=>
             some (e23,true)
            else
             ay (idx l1 0) fun e24=>
             some (e24,true)
def om (a1:au) (b1:au):Option Int:=
 ay (fE a1) fun x1=>
 if x1 then
  some b1.kind
 else
  ay (fE b1) fun x2=>
  if x2 || (a1.kind == b1.kind) then
   some a1.kind
  else
   some (-1)
def uL (t1:au):Option au:=
 ay (fE t1) fun x1=>
 if x1 then
  some t1
 else
  idx t1.elem 0
def Ib (a1:au) (b1:au):Option Bool:=
 ay (rW a1) fun x1=>
 if x1 == 0 then
  ay (rW b1) fun x2=>
  some (x2 == 0)
 else
  some false
def vw (a1:au) (b1:au):Option au:=
 ay (Ib a1 b1) fun x1=>
 if !x1 then
  jm 0
 else
  Ez a1 b1
def H8 (a1:au) (b1:au):Option (au × Bool):=
 ay (fE a1) fun x1=>
 ay (
   if x1 then
    fE b1
   else
    some false) fun b2=>
 if b2 then
  if a1.kind == 0 then
   some (a1,true)
  else
   some (b1,true)
 else
  ay (om a1 b1) fun yw=>
  if yw == 5 then
   ay (uL a1) fun x3=>
   ay (uL b1) fun x4=>
   ay (vw x3 x4) fun x5=>
   ay (iK yw x5) fun x6=>
   some (x6,true)
  else
   ay (eB yw) fun x7=>
   some (x7,((yw == 3) || (yw == 4)))
def Aa (op1:Str) (a1:au) (b1:au):Option (au × Bool):=
 if op1 == ([38,38]:Str) then
  ay (eB 2) fun x1=>
  ay (gH a1 2) fun x2=>
  ay (
    if x2 then
     gH b1 2
    else
     some false) fun b2=>
  some (x1,b2)
 else
  if op1 == ([124,124]:Str) then
   ay (eB 2) fun x4=>
   ay (gH a1 2) fun x5=>
   ay (
     if x5 then
      gH b1 2
     else
      some false) fun b3=>
   some (x4,b3)
  else
   if op1 == ([61,61]:Str) then
    ay (eB 2) fun x7=>
    some (x7,true)
   else
    if op1 == ([33,61]:Str) then
     ay (eB 2) fun x8=>
     some (x8,true)
    else
     if op1 == ([60]:Str) then
      ay (om a1 b1) fun yw=>
      ay (eB 2) fun x9=>
      ay (fE a1) fun KQ=>
      ay (
        if KQ then
         fE b1
        else
         some false) fun b4=>
      some (x9,((b4 || (yw == 3)) || (yw == 4)))
     else
      if op1 == ([60,61]:Str) then
       ay (om a1 b1) fun kx2=>
       ay (eB 2) fun Rl=>
       ay (fE a1) fun Wt=>
       ay (
         if Wt then
          fE b1
         else
          some false) fun b5=>
       some (Rl,((b5 || (kx2 == 3)) || (kx2 == 4)))
      else
       if op1 == ([62]:Str) then
        ay (om a1 b1) fun kx3=>
        ay (eB 2) fun Ws=>
        ay (fE a1) fun PN=>
        ay (
          if PN then
           fE b1
          else
           some false) fun b6=>
        some (Ws,((b6 || (kx3 == 3)) || (kx3 == 4)))
       else
        if op1 == ([62,61]:Str) then
         ay (om a1 b1) fun kx4=>
         ay (eB 2) fun x18=>
         ay (fE a1) fun x19=>
         ay (
           if x19 then
            fE b1
           else
            some false) fun b7=>
         some (x18,((b7 || (kx4 == 3)) || (kx4 == 4)))
        else
         if op1 == ([43]:Str) then
          H8 a1 b1
         else
          ay (eB 3) fun x23=>
          ay (gH a1 3) fun x24=>
          ay (
            if x24 then
             gH b1 3
            else
             some false) fun b8=>
          some (x23,b8)
def xE (e1:ah) (l1:List au):Nat→Int→au→Option (au × Bool)
 | 0,_,_=>none
 | dQ + 1,i1,t1=>
  if decide (i1 < (l1.length:Int)) then
   ay (idx l1 i1) fun e16=>
   ay (vw t1 e16) fun Ws=>
   xE e1 l1 dQ (bL (i1 + 1)) Ws
  else
   if e1.kind == 10 then
    ay (iK 6 t1) fun PN=>
    some (PN,true)
   else
    ay (iK 5 t1) fun x17=>
    some (x17,true)
def jM (e1:ah) (l1:List au):Option (au × Bool):=
 if e1.kind == 3 then
  ay (idx l1 0) fun e2=>
  if e2.kind == 6 then
   ay (idx l1 0) fun e3=>
   ay (idx e3.elem 0) fun e4=>
   some (e4,true)
  else
   ay (idx l1 0) fun e5=>
   ay (idx l1 0) fun e6=>
   ay (fE e6) fun x1=>
   some (e5,x1)
 else
  if e1.kind == 4 then
   ay (idx l1 0) fun e7=>
   ay (idx l1 1) fun e8=>
   Fp e7 e8
  else
   if e1.kind == 5 then
    kX e1.name l1
   else
    if e1.kind == 6 then
     if e1.name == ([33]:Str) then
      ay (eB 2) fun x6=>
      ay (idx l1 0) fun e9=>
      ay (gH e9 2) fun x7=>
      some (x6,x7)
     else
      ay (eB 3) fun x8=>
      ay (idx l1 0) fun e10=>
      ay (gH e10 3) fun x9=>
      some (x8,x9)
    else
     if e1.kind == 7 then
      ay (idx l1 0) fun e11=>
      ay (idx l1 1) fun e12=>
      Aa e1.name e11 e12
     else
      if e1.kind == 8 then
       ay (idx l1 1) fun e13=>
       ay (idx l1 2) fun e14=>
       ay (vw e13 e14) fun Rl=>
       ay (idx l1 0) fun e15=>
       ay (gH e15 2) fun Wt=>
       some (Rl,Wt)
      else
       ay (eB 7) fun x14=>
       xE e1 l1 BIG 0 x14
def qP (nQ:ah→List aO→Option (au × Int)) (e1:ah) (bM:List aO):Nat→List au→Int→Option (au × Int)
 | 0,_,_=>none
 | dQ + 1,l1,i1=>
  if decide (i1 < (e1.args.length:Int)) then
   ay (idx e1.args i1) fun e2=>
   dX (nQ e2 bM) fun x5 f1=>
   if f1 != 0 then
    some ((au.mk 0 []),f1)
   else
    ay (app l1 [x5]) fun l2=>
    qP nQ e1 bM dQ l2 (bL (i1 + 1))
  else
   dX (jM e1 l1) fun x6 ok1=>
   if !ok1 then
    some ((au.mk 0 []),9)
   else
    ay (rW x6) fun x7=>
    if x7 != 0 then
     some ((au.mk 0 []),13)
    else
     some (x6,0)
def Dh (nQ:ah→List aO→Option (au × Int)) (e1:ah) (bM:List aO):Option (au × Int):=
 if (e1.kind == 1) || (e1.kind == 2) then
  Ci e1 bM
 else
  ay (
    if e1.kind == 5 then
     ay (qR e1.name) fun x3=>
     some (decide (x3 < 0))
    else
     some false) fun b1=>
  if b1 then
   some ((au.mk 0 []),10)
  else
   ay (
     if e1.kind == 5 then
      ay (qR e1.name) fun x4=>
      some (x4 != (e1.args.length:Int))
     else
      some false) fun b2=>
   if b2 then
    some ((au.mk 0 []),1)
   else
    qP nQ e1 bM BIG [] 0
def oh :Nat→ah→List aO→Option (au × Int)
 | 0,_,_=>none
 | k + 1,iF,gM=>Dh (oh k) iF gM
def H9 (iF:ah) (gM:List aO):Option (au × Int):=oh BIG iF gM
def qQ (e1:ah) (bM:List aO):Option (au × Int):=
 ay (Fq bM) fun f1=>
 if f1 != 0 then
  some ((au.mk 0 []),f1)
 else
  ay (zD e1) fun f2=>
  if f2 != 0 then
   some ((au.mk 0 []),f2)
  else
   H9 e1 bM
def rT (bM:List aO) (l1:List aK):Nat→Int→Option Int
 | 0,_=>none
 | dQ + 1,i1=>
  if decide (i1 < (l1.length:Int)) then
   ay (idx l1 i1) fun e2=>
   if !e2.EM then
    rT bM l1 dQ (bL (i1 + 1))
   else
    ay (idx l1 i1) fun e3=>
    dX (qQ e3.expr bM) fun x2 f2=>
    if f2 != 0 then
     some f2
    else
     if (x2.kind == 5) || (x2.kind == 6) then
      some 9
     else
      rT bM l1 dQ (bL (i1 + 1))
  else
   some 0
def Ch (s1:Str) (bM:List aO):Option Int:=
 j_ (zC s1) fun l1 x1 e1=>
 if e1 != 0 then
  some e1
 else
  ay (Fq bM) fun f1=>
  if f1 != 0 then
   some f1
  else
   rT bM l1 BIG 0
def ko (s1:Str) (bM:List aO) (l1:List Str) (m1:List Str):Nat→Int→Option Bool
 | 0,_=>none
 | dQ + 1,i1=>
  if decide (i1 < (l1.length:Int)) then
   ay (idx l1 i1) fun e2=>
   ay (idx m1 i1) fun e3=>
   if !(e2 == e3) then
    some false
   else
    ko s1 bM l1 m1 dQ (bL (i1 + 1))
  else
   ay (pV s1 bM) fun x2=>
   ay (Ch s1 bM) fun x3=>
   if x2 == x3 then
    Cz
   else
    some false
def oW (s1:Str) (bM:List aO):Option Bool:=
 if (decide (6000 < (s1.length:Int))) || (decide (300 < (bM.length:Int))) then
  Cz
 else
  dX (su s1) fun l1 e1=>
  dX (Cg s1) fun m1 f1=>
  if (e1 != f1) || ((l1.length:Int) != (m1.length:Int)) then
   some false
  else
   ko s1 bM l1 m1 BIG 0
end Go.Ft
