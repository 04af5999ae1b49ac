/- Proved here: nothing: the functional texts of the functions that the statements reach, as our program wrote them. -/
import Derived.Test.YtpbjbkhfpjckoaaGreatDoorIsWords
set_option linter.unusedVariables false
set_option linter.unusedSimpArgs false
set_option linter.unusedSectionVars false
namespace Go.Ft
open Go
structure aj where
 kind:Int
 jd:Bool
 iG:Int
 jK:Str
 aW:List aj
 keys:List Str
structure ah where
 kind:Int
 name:Str
 value:aj
 args:List ah
 keys:List Str
structure aI where
 kind:Int
 text:Str
 at_:Int
 deriving DecidableEq
structure au where
 ts:List aI
 at_:Int
 deriving DecidableEq
structure aA where
 at_:Int
 code:Int
 deriving DecidableEq
structure aB where
 text:Str
 Oz:Bool
 expr:ah
structure bO where
 name:Str
 value:aj
structure aY where
 code:Int
 deriving DecidableEq
structure ay where
 kind:Int
 elem:List ay
structure bF where
 name:Str
 zU:ay
structure Ug where
 x:Int
 y:Int
 signed:Bool
 code:UInt8
 deriving DecidableEq
structure vZ where
 x:Int
 y:Int
 signed:Bool
 code:UInt8
 deriving DecidableEq
structure Uf where
 msg:Str
 addr:BitVec 64
 deriving DecidableEq
structure oz where
 msg:Str
 addr:BitVec 64
 deriving DecidableEq
structure Ue where
 kind:Int
 jd:Bool
 iG:Int
 jK:Str
 aW:List aj
 keys:List Str
structure Ud where
 kind:Int
 name:Str
 value:aj
 args:List ah
 keys:List Str
structure Uc where
 text:Str
 Oz:Bool
 expr:ah
structure Ub where
 name:Str
 value:aj
structure Ua where
 kind:Int
 elem:List ay
structure T_ where
 name:Str
 zU:ay
structure TY where
 kind:Int
 text:Str
 at_:Int
 deriving DecidableEq
structure TW where
 ts:List aI
 at_:Int
 deriving DecidableEq
structure TV where
 at_:Int
 code:Int
 deriving DecidableEq
structure TU where
 code:Int
 deriving DecidableEq
structure TT where
 lo:UInt8
 hi:UInt8
 deriving DecidableEq
structure zG where
 lo:UInt8
 hi:UInt8
 deriving DecidableEq
structure TS where
 neg:Bool
 hi:BitVec 64
 lo:BitVec 64
 deriving DecidableEq
structure wX where
 neg:Bool
 hi:BitVec 64
 lo:BitVec 64
 deriving DecidableEq
structure aaf where
 half:List (BitVec 64)
 neg:Bool
 deriving DecidableEq
structure XR where
 half:List (BitVec 64)
 neg:Bool
 deriving DecidableEq
structure aae where
 func:Str
 num:Str
 err:Option Nat
structure Rp where
 func:Str
 num:Str
 err:Option Nat
structure TR where
 s:Str
 deriving DecidableEq
structure wY where
 s:Str
 deriving DecidableEq
mutual
def aj.bulk :aj→Nat
 | ⟨a0,a1,a2,a3,a4,a5⟩=>1 + 1 + 1 + (a3.length + 1) + (aj.ow a4 + 1) + ((List.map (fun z:Str=>(z.length + 1)) a5).sum + 1) + 1
def aj.ow :List aj→Nat
 | []=>0
 | x :: xs=>aj.bulk x + aj.ow xs
end
theorem aj.j6 :∀ l:List aj,aj.ow l=(l.map aj.bulk).sum
 | []=>rfl
 | x :: l=>by simp only [aj.ow,List.map_cons,List.sum_cons,aj.j6 l]
theorem aj.gW (x:aj):aj.bulk x=1 + 1 + 1 + (x.jK.length + 1) + (aj.ow x.aW + 1) + ((List.map (fun z:Str=>(z.length + 1)) x.keys).sum + 1) + 1:=by cases x; rfl
mutual
def ah.bulk :ah→Nat
 | ⟨a0,a1,a2,a3,a4⟩=>1 + (a1.length + 1) + (aj.bulk a2) + (ah.ow a3 + 1) + ((List.map (fun z:Str=>(z.length + 1)) a4).sum + 1) + 1
def ah.ow :List ah→Nat
 | []=>0
 | x :: xs=>ah.bulk x + ah.ow xs
end
theorem ah.j6 :∀ l:List ah,ah.ow l=(l.map ah.bulk).sum
 | []=>rfl
 | x :: l=>by simp only [ah.ow,List.map_cons,List.sum_cons,ah.j6 l]
theorem ah.gW (x:ah):ah.bulk x=1 + (x.name.length + 1) + (aj.bulk x.value) + (ah.ow x.args + 1) + ((List.map (fun z:Str=>(z.length + 1)) x.keys).sum + 1) + 1:=by cases x; rfl
def aI.bulk (x:aI):Nat:=1 + (x.text.length + 1) + 1 + 1
def au.bulk (x:au):Nat:=((List.map (fun z:aI=>(aI.bulk z)) x.ts).sum + 1) + 1 + 1
def aA.bulk (x:aA):Nat:=1 + 1 + 1
def aB.bulk (x:aB):Nat:=(x.text.length + 1) + 1 + (ah.bulk x.expr) + 1
def bO.bulk (x:bO):Nat:=(x.name.length + 1) + (aj.bulk x.value) + 1
def aY.bulk (x:aY):Nat:=1 + 1
mutual
def ay.bulk :ay→Nat
 | ⟨a0,a1⟩=>1 + (ay.ow a1 + 1) + 1
def ay.ow :List ay→Nat
 | []=>0
 | x :: xs=>ay.bulk x + ay.ow xs
end
theorem ay.j6 :∀ l:List ay,ay.ow l=(l.map ay.bulk).sum
 | []=>rfl
 | x :: l=>by simp only [ay.ow,List.map_cons,List.sum_cons,ay.j6 l]
theorem ay.gW (x:ay):ay.bulk x=1 + (ay.ow x.elem + 1) + 1:=by cases x; rfl
def bF.bulk (x:bF):Nat:=(x.name.length + 1) + (ay.bulk x.zU) + 1
def Ug.bulk (x:Ug):Nat:=1 + 1 + 1 + 1 + 1
def vZ.bulk (x:vZ):Nat:=1 + 1 + 1 + 1 + 1
def Uf.bulk (x:Uf):Nat:=(x.msg.length + 1) + 1 + 1
def oz.bulk (x:oz):Nat:=(x.msg.length + 1) + 1 + 1
def Ue.bulk (x:Ue):Nat:=1 + 1 + 1 + (x.jK.length + 1) + (aj.ow x.aW + 1) + ((List.map (fun z:Str=>(z.length + 1)) x.keys).sum + 1) + 1
def Ud.bulk (x:Ud):Nat:=1 + (x.name.length + 1) + (aj.bulk x.value) + (ah.ow x.args + 1) + ((List.map (fun z:Str=>(z.length + 1)) x.keys).sum + 1) + 1
def Uc.bulk (x:Uc):Nat:=(x.text.length + 1) + 1 + (ah.bulk x.expr) + 1
def Ub.bulk (x:Ub):Nat:=(x.name.length + 1) + (aj.bulk x.value) + 1
def Ua.bulk (x:Ua):Nat:=1 + (ay.ow x.elem + 1) + 1
def T_.bulk (x:T_):Nat:=(x.name.length + 1) + (ay.bulk x.zU) + 1
def TY.bulk (x:TY):Nat:=1 + (x.text.length + 1) + 1 + 1
def TW.bulk (x:TW):Nat:=((List.map (fun z:aI=>(aI.bulk z)) x.ts).sum + 1) + 1 + 1
def TV.bulk (x:TV):Nat:=1 + 1 + 1
def TU.bulk (x:TU):Nat:=1 + 1
def TT.bulk (x:TT):Nat:=1 + 1 + 1
def zG.bulk (x:zG):Nat:=1 + 1 + 1
def TS.bulk (x:TS):Nat:=1 + 1 + 1 + 1
def wX.bulk (x:wX):Nat:=1 + 1 + 1 + 1
def TR.bulk (x:TR):Nat:=(x.s.length + 1) + 1
def wY.bulk (x:wY):Nat:=(x.s.length + 1) + 1
def qz (jl:ah→Option Int) (e1:ah):Nat→Int→Int→Option Int
 | 0,_,_=>none
 | bP + 1,n1,i1=>
  if decide (i1 < (e1.args.length:Int)) then
   ak (idx e1.args i1) fun e2=>
   ak (jl e2) fun x1=>
   qz jl e1 bP (bQ (n1 + x1)) (bQ (i1 + 1))
  else
   some n1
def wG (jl:ah→Option Int) (e1:ah):Option Int:=
 qz jl e1 BIG 1 0
def kQ :Nat→ah→Option Int
 | 0,_=>none
 | k + 1,eD=>wG (kQ k) eD
def xM (eD:ah):Option Int:=kQ BIG eD
def DC :Option Str:=
 some ([36,123]:List UInt8)
def lK (s1:Str) (qB:Str):Option Bool:=
 if decide ((qB.length:Int)≤(s1.length:Int)) then
  ak (sl s1 0 (qB.length:Int)) fun x1=>
  some (x1 == qB)
 else
  some false
def strings_HasPrefix (s1:Str) (qB:Str):Option Bool:=
 lK s1 qB
def jI (s1:Str):Nat→Int→Int→Option Int
 | 0,_,_=>none
 | bP + 1,at2,g_=>
  if decide (at2 < (s1.length:Int)) then
   ak (idx s1 at2) fun x1=>
   if (x1.toNat:Int) == 34 then
    none
   else
    if (x1.toNat:Int) == 123 then
     jI s1 bP (bQ (at2 + 1)) (bQ (g_ + 1))
    else
     if (x1.toNat:Int) == 125 then
      if g_ == 0 then
       some at2
      else
       jI s1 bP (bQ (at2 + 1)) (bQ (g_ - 1))
     else
      jI s1 bP (bQ (at2 + 1)) g_
  else
   some (-1)
def vG (s1:Str) (ig:Int):Option Int:=
 jI s1 BIG ig 0
def vF (mq:Int):Option Bool:=
 some ((mq == 32) || (mq == 9))
def qM (s1:Str) (AB:UInt8→Option Bool):Nat→Int→Option Int
 | 0,_=>none
 | bP + 1,at2=>
  ak (
    if decide (at2 < (s1.length:Int)) then
     ak (idx s1 at2) fun x1=>
     AB x1
    else
     some false) fun b1=>
  if b1 then
   qM s1 AB bP (bQ (at2 + 1))
  else
   some at2
def sQ (s1:Str) (ig:Int) (AB:UInt8→Option Bool):Option Int:=
 qM s1 AB BIG ig
def qP (c1:UInt8):Option Bool:=
 some ((c1.toNat:Int) != 10)
def qN (c1:UInt8):Option Bool:=
 some ((((decide (97≤(c1.toNat:Int))) && (decide ((c1.toNat:Int)≤122))) || ((decide (65≤(c1.toNat:Int))) && (decide ((c1.toNat:Int)≤90)))) || ((c1.toNat:Int) == 95))
def qb (c1:UInt8):Option Bool:=
 some ((decide (48≤(c1.toNat:Int))) && (decide ((c1.toNat:Int)≤57)))
def uD (c1:UInt8):Option Bool:=
 ak (qN c1) fun x1=>
 if x1 then
  some true
 else
  qb c1
def CP (eZ:Str) (ig:Int):Option (aI × Int × Int):=
 ak (sQ eZ ig uD) fun wo=>
 if decide (64 < (bQ (wo - ig))) then
  some ((aI.mk 0 ([]:Str) 0),0,3)
 else
  ak (sl eZ ig wo) fun x1=>
  some ((aI.mk 1 x1 ig),wo,0)
def qO (sF:Str):Nat→Int→Int→Option Bool
 | 0,_,_=>none
 | bP + 1,n1,i1=>
  if (decide (i1 < (sF.length:Int))) && (decide (n1≤9007199254740992)) then
   ak (idx sF i1) fun x1=>
   qO sF bP (bQ ((bQ (10 * n1)) + ((x1 - 48).toNat:Int))) (bQ (i1 + 1))
  else
   some (decide (9007199254740992 < n1))
def Aq (sF:Str):Option Bool:=
 qO sF BIG 0 0
def yL (eZ:Str) (ig:Int):Option (aI × Int × Int):=
 ak (sQ eZ ig qb) fun wo=>
 ak (sl eZ ig wo) fun text1=>
 ak (
   if decide (1 < (text1.length:Int)) then
    ak (idx text1 0) fun x1=>
    some ((x1.toNat:Int) == 48)
   else
    some false) fun b1=>
 ak (
   if b1 then
    some true
   else
    if decide (wo < (eZ.length:Int)) then
     ak (idx eZ wo) fun x2=>
     qN x2
    else
     some false) fun b2=>
 if b2 then
  some ((aI.mk 0 ([]:Str) 0),0,5)
 else
  ak (Aq text1) fun x4=>
  if x4 then
   some ((aI.mk 0 ([]:Str) 0),0,2)
  else
   some ((aI.mk 2 text1 ig),wo,0)
def kT (eZ:Str) (ig:Int):Nat→Int→Option (aI × Int × Int)
 | 0,_=>none
 | bP + 1,x1=>
  if decide (x1 < (([2,1]:List Int).length:Int)) then
   ak (idx ([2,1]:List Int) x1) fun n1=>
   if decide ((eZ.length:Int) < (bQ (ig + n1))) then
    kT eZ ig bP (bQ (x1 + 1))
   else
    ak (sl eZ ig (bQ (ig + n1))) fun s1=>
    if s1 == ([124,124]:Str) then
     some ((aI.mk 4 s1 ig),(bQ (ig + n1)),0)
    else
     if s1 == ([38,38]:Str) then
      some ((aI.mk 4 s1 ig),(bQ (ig + n1)),0)
     else
      if s1 == ([61,61]:Str) then
       some ((aI.mk 4 s1 ig),(bQ (ig + n1)),0)
      else
       if s1 == ([33,61]:Str) then
        some ((aI.mk 4 s1 ig),(bQ (ig + n1)),0)
       else
        if s1 == ([60,61]:Str) then
         some ((aI.mk 4 s1 ig),(bQ (ig + n1)),0)
        else
         if s1 == ([62,61]:Str) then
          some ((aI.mk 4 s1 ig),(bQ (ig + n1)),0)
         else
          if s1 == ([60]:Str) then
           some ((aI.mk 4 s1 ig),(bQ (ig + n1)),0)
          else
           if s1 == ([62]:Str) then
            some ((aI.mk 4 s1 ig),(bQ (ig + n1)),0)
           else
            if s1 == ([43]:Str) then
             some ((aI.mk 4 s1 ig),(bQ (ig + n1)),0)
            else
             if s1 == ([45]:Str) then
              some ((aI.mk 4 s1 ig),(bQ (ig + n1)),0)
             else
              if s1 == ([42]:Str) then
               some ((aI.mk 4 s1 ig),(bQ (ig + n1)),0)
              else
               if s1 == ([47]:Str) then
                some ((aI.mk 4 s1 ig),(bQ (ig + n1)),0)
               else
                if s1 == ([37]:Str) then
                 some ((aI.mk 4 s1 ig),(bQ (ig + n1)),0)
                else
                 if s1 == ([33]:Str) then
                  some ((aI.mk 4 s1 ig),(bQ (ig + n1)),0)
                 else
                  if s1 == ([63]:Str) then
                   some ((aI.mk 4 s1 ig),(bQ (ig + n1)),0)
                  else
                   if s1 == ([58]:Str) then
                    some ((aI.mk 4 s1 ig),(bQ (ig + n1)),0)
                   else
                    if s1 == ([46]:Str) then
                     some ((aI.mk 4 s1 ig),(bQ (ig + n1)),0)
                    else
                     if s1 == ([44]:Str) then
                      some ((aI.mk 4 s1 ig),(bQ (ig + n1)),0)
                     else
                      if s1 == ([61]:Str) then
                       some ((aI.mk 4 s1 ig),(bQ (ig + n1)),0)
                      else
                       if s1 == ([40]:Str) then
                        some ((aI.mk 4 s1 ig),(bQ (ig + n1)),0)
                       else
                        if s1 == ([41]:Str) then
                         some ((aI.mk 4 s1 ig),(bQ (ig + n1)),0)
                        else
                         if s1 == ([91]:Str) then
                          some ((aI.mk 4 s1 ig),(bQ (ig + n1)),0)
                         else
                          if s1 == ([93]:Str) then
                           some ((aI.mk 4 s1 ig),(bQ (ig + n1)),0)
                          else
                           if s1 == ([123]:Str) then
                            some ((aI.mk 4 s1 ig),(bQ (ig + n1)),0)
                           else
                            if s1 == ([125]:Str) then
                             some ((aI.mk 4 s1 ig),(bQ (ig + n1)),0)
                            else
                             kT eZ ig bP (bQ (x1 + 1))
  else
   some ((aI.mk 0 ([]:Str) 0),0,5)
def vD (eZ:Str) (ig:Int):Option (aI × Int × Int):=
 kT eZ ig BIG 0
def Ap (eZ:Str) (ig:Int):Option (aI × Int × Int):=
 ak (idx eZ ig) fun c1=>
 ak (qN c1) fun x1=>
 if x1 then
  CP eZ ig
 else
  ak (qb c1) fun x5=>
  if x5 then
   yL eZ ig
  else
   if (c1.toNat:Int) == 34 then
    none
   else
    vD eZ ig
def vE (op1:Str) (g_:Int):Option Int:=
 if op1 == ([40]:Str) then
  some (bQ (g_ + 1))
 else
  if op1 == ([91]:Str) then
   some (bQ (g_ + 1))
  else
   if op1 == ([41]:Str) then
    some (if 0 < (bQ (g_ - 1)) then (bQ (g_ - 1)) else 0)
   else
    if op1 == ([93]:Str) then
     some (if 0 < (bQ (g_ - 1)) then (bQ (g_ - 1)) else 0)
    else
     some g_
def iy (eZ:Str):Nat→List aI→Int→Int→Nat→Option (List aI × Int × Int)
 | 0,_,_,_,_=>none
 | bP + 1,dw,xR,g_,pos1=>
  if decide (pos1 < eZ.length) then
   ak (
     if decide ((pos1:Int) < xR) then
      some true
     else
      vF ((dec eZ pos1).1:Int)) fun b1=>
   if b1 then
    iy eZ bP dw xR g_ (pos1 + (dec eZ pos1).2)
   else
    if ((dec eZ pos1).1:Int) == 35 then
     ak (sQ eZ (pos1:Int) qP) fun SN=>
     iy eZ bP dw SN g_ (pos1 + (dec eZ pos1).2)
    else
     if ((dec eZ pos1).1:Int) == 10 then
      ak (
        if g_ == 0 then
         if (dw.length:Int) == 0 then
          some true
         else
          ak (idx dw (bQ ((dw.length:Int) - 1))) fun e1=>
          some (e1.kind != 5)
        else
         some false) fun b2=>
      if b2 then
       ak (app dw [(aI.mk 5 ([]:Str) (pos1:Int))]) fun yG=>
       iy eZ bP yG xR g_ (pos1 + (dec eZ pos1).2)
      else
       iy eZ bP dw xR g_ (pos1 + (dec eZ pos1).2)
     else
      t_ (Ap eZ (pos1:Int)) fun x2 wo e2=>
      if e2 != 0 then
       some ([],(pos1:Int),e2)
      else
       if x2.kind == 4 then
        ak (vE x2.text g_) fun SI=>
        ak (app dw [x2]) fun UE=>
        iy eZ bP UE wo SI (pos1 + (dec eZ pos1).2)
       else
        ak (app dw [x2]) fun SF=>
        iy eZ bP SF wo g_ (pos1 + (dec eZ pos1).2)
  else
   some (dw,0,0)
def yM (eZ:Str):Option (List aI × Int × Int):=
 if decide (65536 < (eZ.length:Int)) then
  some ([],0,3)
 else
  iy eZ BIG [] 0 0 0
def oP (c1:UInt8):Option Bool:=
 some ((((decide (97≤(c1.toNat:Int))) && (decide ((c1.toNat:Int)≤122))) || ((decide (65≤(c1.toNat:Int))) && (decide ((c1.toNat:Int)≤90)))) || ((c1.toNat:Int) == 95))
def qG (c1:UInt8):Option Bool:=
 some ((decide (48≤(c1.toNat:Int))) && (decide ((c1.toNat:Int)≤57)))
def lH (s1:Str):Nat→Int→Option Bool
 | 0,_=>none
 | bP + 1,i1=>
  if decide (i1 < (s1.length:Int)) then
   ak (idx s1 i1) fun x3=>
   ak (oP x3) fun x4=>
   ak (
     if !x4 then
      ak (idx s1 i1) fun x5=>
      ak (qG x5) fun x6=>
      some (!x6)
     else
      some false) fun b2=>
   if b2 then
    some false
   else
    lH s1 bP (bQ (i1 + 1))
  else
   some true
def p9 (s1:Str):Option Bool:=
 ak (
   if (decide ((s1.length:Int) < 1)) || (decide (64 < (s1.length:Int))) then
    some true
   else
    ak (idx s1 0) fun x1=>
    ak (oP x1) fun x2=>
    some (!x2)) fun b1=>
 if b1 then
  some false
 else
  lH s1 BIG 0
def strconv_Itoa (n1:Int):Option Str:=
 if -9223372036854775808≤n1∧n1≤9223372036854775807 then some (Cb n1) else none
def strconv_Atoi (s1:Str):Option (Int × Option Nat):=
 if s1.length≤281474976710656 then some ((KJ s1).2,if (KJ s1).1=0 then none else some 353) else none
def mZ (s1:Str):Nat→Int→Option Bool
 | 0,_=>none
 | bP + 1,i1=>
  if decide (i1 < (s1.length:Int)) then
   ak (idx s1 i1) fun x2=>
   ak (qG x2) fun x3=>
   if !x3 then
    some false
   else
    mZ s1 bP (bQ (i1 + 1))
  else
   iV (strconv_Atoi s1) fun n1 Y7=>
   some ((Y7.isNone) && (decide (n1≤9007199254740992)))
def vC (s1:Str):Option Bool:=
 ak (
   if s1 == ([]:Str) then
    some true
   else
    if decide (1 < (s1.length:Int)) then
     ak (idx s1 0) fun x1=>
     some ((x1.toNat:Int) == 48)
    else
     some false) fun b1=>
 if b1 then
  some false
 else
  mZ s1 BIG 0
def Af (t1:aI):Option Bool:=
 if t1.kind == 1 then
  p9 t1.text
 else
  if t1.kind == 2 then
   vC t1.text
  else
   if t1.kind == 3 then
    some (decide ((t1.text.length:Int)≤4096))
   else
    if t1.kind == 4 then
     some true
    else
     some false
def je (mq:au):Option (aI × au):=
 ak (
   if decide (mq.at_ < (mq.ts.length:Int)) then
    ak (idx mq.ts mq.at_) fun e1=>
    Af e1
   else
    some false) fun b1=>
 if b1 then
  ak (idx mq.ts mq.at_) fun e2=>
  some (e2,mq)
 else
  some ((aI.mk 0 ([]:Str) 0),mq)
def rU (mq:au) (op1:Str):Option (Bool × au):=
 iV (je mq) fun x1 y1=>
 some (((x1.kind == 4) && (x1.text == op1)),y1)
def dO (mq:au) (op1:Str):Option (Bool × au):=
 iV (rU mq op1) fun x1 y1=>
 if !x1 then
  some (false,y1)
 else
  some (true,(au.mk y1.ts (bQ (y1.at_ + 1))))
def iA (mq:au) (e1:Int):Option (iT aA Unit × au):=
 some (.bad (aA.mk mq.at_ e1),mq)
def lX (mq:au):Option (iT aA aI × au):=
 if decide ((mq.ts.length:Int)≤mq.at_) then
  kE (iA mq 4) (fun e1 y2=>some (.bad e1,y2)) fun _ y1=>
  iV (je y1) fun x1 y3=>
  if x1.kind == 0 then
   kE (iA y3 5) (fun e2 y5=>some (.bad e2,y5)) fun _ y4=>
   some (.ok x1,y4)
  else
   some (.ok x1,y3)
 else
  iV (je mq) fun x2 y6=>
  if x2.kind == 0 then
   kE (iA y6 5) (fun e3 y8=>some (.bad e3,y8)) fun _ y7=>
   some (.ok x2,y7)
  else
   some (.ok x2,y6)
def lI (v1:aj):Option ah:=
 some (ah.mk 1 ([]:Str) v1 [] [])
def pX (s1:Str):Option Bool:=
 some (((s1 == ([116,114,117,101]:Str)) || (s1 == ([102,97,108,115,101]:Str))) || (s1 == ([110,117,108,108]:Str)))
def pI (mq:au) (s1:Str):Option (iT aA ah × au):=
 if s1 == ([110,117,108,108]:Str) then
  ak (lI (aj.mk 0 false 0 ([]:Str) [] [])) fun x1=>
  some (.ok x1,mq)
 else
  ak (pX s1) fun x2=>
  if x2 then
   ak (lI (aj.mk 1 (s1 == ([116,114,117,101]:Str)) 0 ([]:Str) [] [])) fun x3=>
   some (.ok x3,mq)
  else
   iV (dO mq ([40]:Str)) fun x4 y1=>
   if x4 then
    none
   else
    some (.ok (ah.mk 2 s1 (aj.mk 0 false 0 ([]:Str) [] []) [] []),y1)
def eF (op1:Str):Option Int:=
 if op1 == ([124,124]:Str) then
  some 2
 else
  if op1 == ([38,38]:Str) then
   some 3
  else
   if op1 == ([61,61]:Str) then
    some 4
   else
    if op1 == ([33,61]:Str) then
     some 4
    else
     if op1 == ([60]:Str) then
      some 4
     else
      if op1 == ([60,61]:Str) then
       some 4
      else
       if op1 == ([62]:Str) then
        some 4
       else
        if op1 == ([62,61]:Str) then
         some 4
        else
         if op1 == ([43]:Str) then
          some 5
         else
          if op1 == ([45]:Str) then
           some 5
          else
           if op1 == ([42]:Str) then
            some 6
           else
            if op1 == ([47]:Str) then
             some 6
            else
             if op1 == ([37]:Str) then
              some 6
             else
              some 0
def kD (aD:au→Option (iT aA ah × au)) (aG:au→Int→Option (iT aA ah × au)) (aO:au→Option (iT aA ah × au)) (aP:au→Option (iT aA ah × au)) (aZ:au→Option (iT aA ah × au)) (mq:au):Option (iT aA ah × au):=
 kE (aG mq 2) (fun e1 y2=>some (.bad e1,y2)) fun x1 y1=>
 iV (dO y1 ([63]:Str)) fun x2 y3=>
 if !x2 then
  some (.ok x1,y3)
 else
  kE (aD y3) (fun e2 y5=>some (.bad e2,y5)) fun x3 y4=>
  none
def iK (aG:au→Int→Option (iT aA ah × au)) (n1:Int):Nat→ah→au→Option (iT aA ah × au)
 | 0,_,_=>none
 | bP + 1,e3,y5=>
  iV (je y5) fun x3 y6=>
  ak (
    if x3.kind != 4 then
     some true
    else
     ak (eF x3.text) fun x4=>
     some (x4 != n1)) fun b1=>
  if b1 then
   some (.ok e3,y6)
  else
   kE (aG (au.mk y6.ts (bQ (y6.at_ + 1))) (bQ (n1 + 1))) (fun e4 y8=>some (.bad e4,y8)) fun x5 y7=>
   if n1 == 4 then
    some (.ok (ah.mk 7 x3.text (aj.mk 0 false 0 ([]:Str) [] []) [e3,x5] []),y7)
   else
    iK aG n1 bP (ah.mk 7 x3.text (aj.mk 0 false 0 ([]:Str) [] []) [e3,x5] []) y7
def kC (aD:au→Option (iT aA ah × au)) (aG:au→Int→Option (iT aA ah × au)) (aO:au→Option (iT aA ah × au)) (aP:au→Option (iT aA ah × au)) (aZ:au→Option (iT aA ah × au)) (mq:au) (n1:Int):Option (iT aA ah × au):=
 if n1 == 7 then
  kE (aO mq) (fun e1 y2=>some (.bad e1,y2)) fun x1 y1=>
  some (.ok x1,y1)
 else
  kE (aG mq (bQ (n1 + 1))) (fun e2 y4=>some (.bad e2,y4)) fun x2 y3=>
  iK aG n1 BIG x2 y3
def jQ (aO:au→Option (iT aA ah × au)) (aP:au→Option (iT aA ah × au)):Nat→Int→au→Option (iT aA ah × au)
 | 0,_,_=>none
 | bP + 1,x1,y1=>
  if decide (x1 < (([([33]:Str),([45]:Str)]:List Str).length:Int)) then
   ak (idx ([([33]:Str),([45]:Str)]:List Str) x1) fun op1=>
   iV (dO y1 op1) fun x2 y2=>
   if x2 then
    kE (aO y2) (fun e1 y4=>some (.bad e1,y4)) fun x3 y3=>
    some (.ok (ah.mk 6 op1 (aj.mk 0 false 0 ([]:Str) [] []) [x3] []),y3)
   else
    jQ aO aP bP (bQ (x1 + 1)) y2
  else
   kE (aP y1) (fun e2 y6=>some (.bad e2,y6)) fun x4 y5=>
   some (.ok x4,y5)
def mV (aD:au→Option (iT aA ah × au)) (aG:au→Int→Option (iT aA ah × au)) (aO:au→Option (iT aA ah × au)) (aP:au→Option (iT aA ah × au)) (aZ:au→Option (iT aA ah × au)) (mq:au):Option (iT aA ah × au):=
 jQ aO aP BIG 0 mq
def iL (aD:au→Option (iT aA ah × au)):Nat→ah→au→Option (iT aA ah × au)
 | 0,_,_=>none
 | bP + 1,e2,y3=>
  iV (dO y3 ([46]:Str)) fun x2 y4=>
  if x2 then
   kE (lX y4) (fun e3 y6=>some (.bad e3,y6)) fun x3 y5=>
   ak (
     if x3.kind != 1 then
      some true
     else
      pX x3.text) fun b1=>
   if b1 then
    kE (iA y5 5) (fun e4 y8=>some (.bad e4,y8)) fun _ y7=>
    iL aD bP (ah.mk 3 x3.text (aj.mk 0 false 0 ([]:Str) [] []) [e2] []) (au.mk y7.ts (bQ (y7.at_ + 1)))
   else
    iL aD bP (ah.mk 3 x3.text (aj.mk 0 false 0 ([]:Str) [] []) [e2] []) (au.mk y5.ts (bQ (y5.at_ + 1)))
  else
   iV (dO y4 ([91]:Str)) fun x5 y9=>
   if x5 then
    kE (aD y9) (fun e5 Ya=>some (.bad e5,Ya)) fun x6 Zi=>
    none
   else
    some (.ok e2,y9)
def mW (aD:au→Option (iT aA ah × au)) (aG:au→Int→Option (iT aA ah × au)) (aO:au→Option (iT aA ah × au)) (aP:au→Option (iT aA ah × au)) (aZ:au→Option (iT aA ah × au)) (mq:au):Option (iT aA ah × au):=
 kE (aZ mq) (fun e1 y2=>some (.bad e1,y2)) fun x1 y1=>
 iL aD BIG x1 y1
def nJ (aD:au→Option (iT aA ah × au)) (aG:au→Int→Option (iT aA ah × au)) (aO:au→Option (iT aA ah × au)) (aP:au→Option (iT aA ah × au)) (aZ:au→Option (iT aA ah × au)) (mq:au):Option (iT aA ah × au):=
 kE (lX mq) (fun e1 y2=>some (.bad e1,y2)) fun x1 y1=>
 if x1.kind == 2 then
  iV (strconv_Atoi x1.text) fun n1 x2=>
  ak (lI (aj.mk 2 false n1 ([]:Str) [] [])) fun x3=>
  some (.ok x3,(au.mk y1.ts (bQ (y1.at_ + 1))))
 else
  if x1.kind == 3 then
   ak (lI (aj.mk 3 false 0 x1.text [] [])) fun x4=>
   some (.ok x4,(au.mk y1.ts (bQ (y1.at_ + 1))))
  else
   if x1.kind == 1 then
    kE (pI (au.mk y1.ts (bQ (y1.at_ + 1))) x1.text) (fun e2 y4=>some (.bad e2,y4)) fun x5 y3=>
    some (.ok x5,y3)
   else
    iV (dO y1 ([40]:Str)) fun x6 y5=>
    if x6 then
     kE (aD y5) (fun e3 y7=>some (.bad e3,y7)) fun x7 y6=>
     none
    else
     iV (dO y5 ([91]:Str)) fun x8 y8=>
     if x8 then
      none
     else
      iV (dO y8 ([123]:Str)) fun x9 y9=>
      if x9 then
       none
      else
       kE (iA y9 5) (fun e4 Ya=>some (.bad e4,Ya)) fun _ Zi=>
       some (.ok (ah.mk 0 ([]:Str) (aj.mk 0 false 0 ([]:Str) [] []) [] []),Zi)
mutual
def bJ :Nat→au→Option (iT aA ah × au)
 | 0,_=>none
 | k + 1,iq=>kD (bJ k) (bI k) (bW k) (bX k) (bZ k) iq
def bI :Nat→au→Int→Option (iT aA ah × au)
 | 0,_,_=>none
 | k + 1,iq,FI=>kC (bJ k) (bI k) (bW k) (bX k) (bZ k) iq FI
def bW :Nat→au→Option (iT aA ah × au)
 | 0,_=>none
 | k + 1,iq=>mV (bJ k) (bI k) (bW k) (bX k) (bZ k) iq
def bX :Nat→au→Option (iT aA ah × au)
 | 0,_=>none
 | k + 1,iq=>mW (bJ k) (bI k) (bW k) (bX k) (bZ k) iq
def bZ :Nat→au→Option (iT aA ah × au)
 | 0,_=>none
 | k + 1,iq=>nJ (bJ k) (bI k) (bW k) (bX k) (bZ k) iq
end
def pY (iq:au):Option (iT aA ah × au):=bJ BIG iq
def xP (iq:au) (FI:Int):Option (iT aA ah × au):=bI BIG iq FI
def BQ (iq:au):Option (iT aA ah × au):=bW BIG iq
def BS (iq:au):Option (iT aA ah × au):=bX BIG iq
def CJ (iq:au):Option (iT aA ah × au):=bZ BIG iq
def Ag (Ec:List aI):Option (ah × Int × Int):=
 kE (pY (au.mk Ec 0)) (fun f1 _=>some ((ah.mk 0 ([]:Str) (aj.mk 0 false 0 ([]:Str) [] []) [] []),f1.at_,f1.code)) fun e1 r1=>
 some (e1,r1.at_,0)
def mG (gq:ah→Option Int) (e1:ah):Nat→Int→Int→Option Int
 | 0,_,_=>none
 | bP + 1,n1,x1=>
  if decide (x1 < (e1.args.length:Int)) then
   ak (idx e1.args x1) fun e2=>
   ak (gq e2) fun x2=>
   mG gq e1 bP (bQ (n1 + x2)) (bQ (x1 + 1))
  else
   some n1
def qI (gq:ah→Option Int) (e1:ah):Option Int:=
 mG gq e1 BIG 1 0
def iN :Nat→ah→Option Int
 | 0,_=>none
 | k + 1,eD=>qI (iN k) eD
def uy (eD:ah):Option Int:=iN BIG eD
def wK (v1:aj):Option Bool:=
 some ((((((v1.kind == 0) && (!v1.jd)) && (v1.iG == 0)) && (v1.jK == ([]:Str))) && ((v1.aW.length:Int) == 0)) && ((v1.keys.length:Int) == 0))
def lY (s1:Str):Option Bool:=
 ak (p9 s1) fun x1=>
 if x1 then
  ak (pX s1) fun x2=>
  some (!x2)
 else
  some false
def qD (e1:ah):Option Bool:=
 if e1.kind == 2 then
  lY e1.name
 else
  if e1.kind == 3 then
   lY e1.name
  else
   if e1.kind == 5 then
    lY e1.name
   else
    if e1.kind == 6 then
     some ((e1.name == ([33]:Str)) || (e1.name == ([45]:Str)))
    else
     if e1.kind == 7 then
      ak (eF e1.name) fun x4=>
      some (decide (0 < x4))
     else
      some (e1.name == ([]:Str))
def qH (e1:ah):Option Bool:=
 if e1.kind == 1 then
  some ((e1.args.length:Int) == 0)
 else
  if e1.kind == 2 then
   some ((e1.args.length:Int) == 0)
  else
   if e1.kind == 3 then
    some ((e1.args.length:Int) == 1)
   else
    if e1.kind == 6 then
     some ((e1.args.length:Int) == 1)
    else
     if e1.kind == 4 then
      some ((e1.args.length:Int) == 2)
     else
      if e1.kind == 7 then
       some ((e1.args.length:Int) == 2)
      else
       if e1.kind == 8 then
        some ((e1.args.length:Int) == 3)
       else
        some true
def dM (s1:List Str) (f1:Str→Option Bool):Nat→Int→Option Int
 | 0,_=>none
 | bP + 1,i1=>
  if decide (i1 < (s1.length:Int)) then
   ak (idx s1 i1) fun e1=>
   ak (f1 e1) fun x1=>
   if x1 then
    some i1
   else
    dM s1 f1 bP (bQ (i1 + 1))
  else
   some (-1)
def fE (s1:List Str) (f1:Str→Option Bool):Option Int:=
 dM s1 f1 BIG 0
def dN (s1:List Str) (f1:Str→Option Bool):Option Bool:=
 ak (fE s1 f1) fun x1=>
 some (decide (0≤x1))
def gZ (qc:Str):Option Bool:=
 some ((decide ((qc.length:Int) < 1)) || (decide (64 < (qc.length:Int))))
def qE (e1:ah):Option Bool:=
 if e1.kind != 10 then
  some ((e1.keys.length:Int) == 0)
 else
  if (e1.keys.length:Int) == (e1.args.length:Int) then
   ak (dN e1.keys gZ) fun x1=>
   some (!x1)
  else
   some false
def oJ {β:Type} (go:β→aj→Int→Option (Bool × β)) (v1:aj) (bf:Int):Nat→β→Int→Option (Bool × β)
 | 0,_,_=>none
 | bP + 1,s1,i1=>
  if decide (i1 < (v1.aW.length:Int)) then
   ak (idx v1.aW i1) fun x1=>
   iV (go s1 x1 (bQ (bf + 1))) fun b1 s2=>
   if !b1 then
    some (false,s2)
   else
    oJ go v1 bf bP s2 (bQ (i1 + 1))
  else
   some (true,s1)
def ug {β:Type} (go:β→aj→Int→Option (Bool × β)) (y:β→Int→aj→Option (Bool × β)) (s1:β) (v1:aj) (bf:Int):Option (Bool × β):=
 iV (y s1 bf v1) fun b1 s2=>
 if !b1 then
  some (false,s2)
 else
  oJ go v1 bf BIG s2 0
def kJ {β:Type} (y:β→Int→aj→Option (Bool × β)):Nat→β→aj→Int→Option (Bool × β)
 | 0,_,_,_=>none
 | k + 1,s1,v1,bf=>ug (kJ y k) y s1 v1 bf
def Cw {β:Type} (y:β→Int→aj→Option (Bool × β)) (s1:β) (v1:aj) (bf:Int):Option (Bool × β):=kJ y BIG s1 v1 bf
def uh (v1:aj):Option Bool:=
 some ((((((v1.kind == 1) || (!v1.jd)) && ((v1.kind == 2) || (v1.iG == 0))) && ((v1.kind == 3) || (v1.jK == ([]:Str)))) && (((v1.kind == 4) || (v1.kind == 5)) || ((v1.aW.length:Int) == 0))) && ((v1.kind == 5) || ((v1.keys.length:Int) == 0)))
def wN (c1:UInt8):Option Bool:=
 some ((decide (48≤(c1.toNat:Int))) && (decide ((c1.toNat:Int)≤57)))
def qU (s1:Str):Nat→Int→Option Int
 | 0,_=>none
 | bP + 1,n1=>
  ak (
    if decide (n1 < (s1.length:Int)) then
     ak (idx s1 n1) fun x1=>
     wN x1
    else
     some false) fun b1=>
  if b1 then
   qU s1 bP (bQ (n1 + 1))
  else
   some n1
def uS (s1:Str):Option Int:=
 qU s1 BIG 0
def eG (c1:UInt8):Nat→Str→Option Str
 | 0,_=>none
 | bP + 1,s2=>
  ak (
    if decide (0 < (s2.length:Int)) then
     ak (idx s2 0) fun x1=>
     some ((x1.toNat:Int) == (c1.toNat:Int))
    else
     some false) fun b1=>
  if b1 then
   ak (sl s2 1 (s2.length:Int)) fun s3=>
   eG c1 bP s3
  else
   some s2
def strings_trimLeftByte (s1:Str) (c1:UInt8):Option Str:=
 eG c1 BIG s1
def jU (s1:Str) (wT:Str):Option Str:=
 if (s1 == ([]:Str)) || (wT == ([]:Str)) then
  some s1
 else
  ak (
    if (wT.length:Int) == 1 then
     ak (idx wT 0) fun x1=>
     some (decide ((x1.toNat:Int) < 128))
    else
     some false) fun b1=>
  if b1 then
   ak (idx wT 0) fun x2=>
   strings_trimLeftByte s1 x2
  else
   none
def cmp_isNaN_int (x1:Int):Option Bool:=
 some (x1 != x1)
def cmp_Compare_int (x1:Int) (y1:Int):Option Int:=
 ak (cmp_isNaN_int x1) fun EY=>
 ak (cmp_isNaN_int y1) fun zM=>
 if EY then
  if zM then
   some 0
  else
   some (-1)
 else
  if zM then
   some 1
  else
   if decide (x1 < y1) then
    some (-1)
   else
    if decide (y1 < x1) then
     some 1
    else
     some 0
def cmp_isNaN_string (x1:Str):Option Bool:=
 some (!(x1 == x1))
def j5 (x1:Str) (y1:Str):Option Int:=
 ak (cmp_isNaN_string x1) fun EY=>
 ak (cmp_isNaN_string y1) fun zM=>
 if EY then
  if zM then
   some 0
  else
   some (-1)
 else
  if zM then
   some 1
  else
   if Go.Op.bytesLess x1 y1 then
    some (-1)
   else
    if !(Go.Op.bytesLess x1 y1 || x1 == y1) then
     some 1
    else
     some 0
def oW (zo:List Int):Nat→Int→Option Int
 | 0,_=>none
 | bP + 1,x1=>
  if decide (x1 < (zo.length:Int)) then
   ak (idx zo x1) fun Qf=>
   if Qf != 0 then
    some Qf
   else
    oW zo bP (bQ (x1 + 1))
  else
   some 0
def vN (zo:List Int):Option Int:=
 oW zo BIG 0
def oV (a1:Str) (b1:Str):Option Int:=
 ak (jU a1 ([48]:Str)) fun x1=>
 ak (jU b1 ([48]:Str)) fun y1=>
 ak (cmp_Compare_int (x1.length:Int) (y1.length:Int)) fun x2=>
 ak (j5 x1 y1) fun x3=>
 ak (cmp_Compare_int (a1.length:Int) (b1.length:Int)) fun x4=>
 vN ([x2,x3,x4]:List Int)
def nO (x1:UInt8):Option Bool:=
 some ((x1.toNat:Int) != (x1.toNat:Int))
def lN (x1:UInt8) (y1:UInt8):Option Int:=
 ak (nO x1) fun EY=>
 ak (nO y1) fun zM=>
 if EY then
  if zM then
   some 0
  else
   some (-1)
 else
  if zM then
   some 1
  else
   if decide ((x1.toNat:Int) < (y1.toNat:Int)) then
    some (-1)
   else
    if decide ((y1.toNat:Int) < (x1.toNat:Int)) then
     some 1
    else
     some 0
def gF :Nat→Str→Str→Option Int
 | 0,_,_=>none
 | bP + 1,a2,b2=>
  if (!(a2 == ([]:Str))) && (!(b2 == ([]:Str))) then
   ak (uS a2) fun n1=>
   ak (uS b2) fun m1=>
   if (decide (0 < n1)) && (decide (0 < m1)) then
    ak (sl a2 0 n1) fun x1=>
    ak (sl b2 0 m1) fun x2=>
    ak (oV x1 x2) fun c1=>
    if c1 != 0 then
     some c1
    else
     ak (sl a2 n1 (a2.length:Int)) fun a3=>
     ak (sl b2 m1 (b2.length:Int)) fun b3=>
     gF bP a3 b3
   else
    ak (idx a2 0) fun x3=>
    ak (idx b2 0) fun x4=>
    if (x3.toNat:Int) != (x4.toNat:Int) then
     ak (idx a2 0) fun x5=>
     ak (idx b2 0) fun x6=>
     lN x5 x6
    else
     ak (sl a2 1 (a2.length:Int)) fun a4=>
     ak (sl b2 1 (b2.length:Int)) fun b4=>
     gF bP a4 b4
  else
   cmp_Compare_int (a2.length:Int) (b2.length:Int)
def lg (a1:Str) (b1:Str):Option Int:=
 gF BIG a1 b1
def lG (v1:aj):Nat→Int→Option Bool
 | 0,_=>none
 | bP + 1,i1=>
  if decide (i1 < (v1.keys.length:Int)) then
   ak (idx v1.keys i1) fun qc=>
   ak (
     if (decide ((qc.length:Int) < 1)) || (decide (64 < (qc.length:Int))) then
      some true
     else
      if decide (0 < i1) then
       ak (idx v1.keys (bQ (i1 - 1))) fun e1=>
       ak (lg e1 qc) fun x1=>
       some (decide (0≤x1))
      else
       some false) fun b1=>
   if b1 then
    some false
   else
    lG v1 bP (bQ (i1 + 1))
  else
   some true
def sH (v1:aj):Option Bool:=
 if (v1.keys.length:Int) != (v1.aW.length:Int) then
  some false
 else
  lG v1 BIG 0
def uY (v1:aj) (bf:Int):Option Int:=
 if decide (16 < bf) then
  some 13
 else
  ak (
    if (decide (v1.kind < 0)) || (decide (5 < v1.kind)) then
     some true
    else
     ak (uh v1) fun x1=>
     some (!x1)) fun b1=>
  if b1 then
   some 1
  else
   if (decide (v1.iG < (-9007199254740992))) || (decide (9007199254740992 < v1.iG)) then
    some 2
   else
    if ((decide (4096 < (v1.jK.length:Int))) || (decide (1024 < (v1.aW.length:Int)))) || (decide (1024 < (v1.keys.length:Int))) then
     some 3
    else
     ak (
       if v1.kind == 5 then
        ak (sH v1) fun x2=>
        some (!x2)
       else
        some false) fun b2=>
     if b2 then
      some 1
     else
      if (((v1.kind == 4) || (v1.kind == 5)) && ((v1.aW.length:Int) == 0)) && (bf == 16) then
       some 13
      else
       some 0
def jh (s1:Option Int) (bf:Int) (x1:aj):Option (Bool × Option Int):=
 match s1 with
 | some _=>none
 | none=>
  ak (uY x1 bf) fun e1=>
  if !(e1 == 0) then
   some (false,some e1)
  else
   some (true,none)
def jR (v1:aj):Option Int:=
 iV (Cw jh none v1 1) fun _ s1=>
 some (s1.getD 0)
def jZ (l1:List Str):Nat→Int→List (Str × Int)→Option Bool
 | 0,_,_=>none
 | bP + 1,x1,y1=>
  if decide (x1 < (l1.length:Int)) then
   ak (idx l1 x1) fun s1=>
   if decide (1 < (nX (oQ y1 s1 (bQ ((nX y1 s1) + 1))) s1)) then
    some true
   else
    jZ l1 bP (bQ (x1 + 1)) (oQ y1 s1 (bQ ((nX y1 s1) + 1)))
  else
   some false
def mF (l1:List Str):Option Bool:=
 jZ l1 BIG 0 []
def sN (e1:ah) (bf:Int):Option Int:=
 if decide (16 < bf) then
  some 13
 else
  ak (
    if (decide (e1.kind < 1)) || (decide (10 < e1.kind)) then
     some true
    else
     if e1.kind != 1 then
      ak (wK e1.value) fun x1=>
      some (!x1)
     else
      some false) fun b1=>
  ak (
    if b1 then
     some true
    else
     ak (qD e1) fun x2=>
     some (!x2)) fun b3=>
  ak (
    if b3 then
     some true
    else
     ak (qH e1) fun x3=>
     some (!x3)) fun b4=>
  ak (
    if b4 then
     some true
    else
     ak (qE e1) fun x4=>
     some (!x4)) fun b5=>
  if b5 then
   some 1
  else
   ak (
     if e1.kind == 1 then
      ak (jR e1.value) fun x5=>
      some (x5 != 0)
     else
      some false) fun b6=>
   if b6 then
    jR e1.value
   else
    if decide (1024 < (e1.args.length:Int)) then
     some 3
    else
     ak (mF e1.keys) fun x7=>
     if x7 then
      some 7
     else
      some 0
def mE (f_:ah→Int→Option Int) (e1:ah) (bf:Int):Nat→Int→Option Int
 | 0,_=>none
 | bP + 1,x1=>
  if decide (x1 < (e1.args.length:Int)) then
   ak (idx e1.args x1) fun e2=>
   ak (f_ e2 (bQ (bf + 1))) fun f2=>
   if f2 != 0 then
    some f2
   else
    mE f_ e1 bf bP (bQ (x1 + 1))
  else
   some 0
def qC (f_:ah→Int→Option Int) (e1:ah) (bf:Int):Option Int:=
 ak (sN e1 bf) fun f1=>
 if f1 != 0 then
  some f1
 else
  mE f_ e1 bf BIG 0
def iJ :Nat→ah→Int→Option Int
 | 0,_,_=>none
 | k + 1,eD,dA=>qC (iJ k) eD dA
def yD (eD:ah) (dA:Int):Option Int:=iJ BIG eD dA
def ji (e1:ah):Option Int:=
 ak (uy e1) fun x1=>
 if decide (4096 < x1) then
  some 15
 else
  yD e1 1
def Ah (Ec:List aI):Option (ah × Int × Int):=
 t_ (Ag Ec) fun x1 n1 ko=>
 if ko != 0 then
  some ((ah.mk 0 ([]:Str) (aj.mk 0 false 0 ([]:Str) [] []) [] []),n1,ko)
 else
  ak (ji x1) fun vM=>
  if vM != 0 then
   some ((ah.mk 0 ([]:Str) (aj.mk 0 false 0 ([]:Str) [] []) [] []),0,vM)
  else
   some (x1,n1,0)
def yE (Ec:List aI) (n1:Int) (eZ:Str):Option Int:=
 if decide (n1 < (Ec.length:Int)) then
  ak (idx Ec n1) fun e1=>
  some e1.at_
 else
  some (eZ.length:Int)
def yF (eZ:Str):Option (ah × Int × Int):=
 t_ (yM eZ) fun Ec ig ko=>
 if ko != 0 then
  some ((ah.mk 0 ([]:Str) (aj.mk 0 false 0 ([]:Str) [] []) [] []),ig,ko)
 else
  t_ (Ah Ec) fun x1 n1 vM=>
  if vM != 0 then
   ak (yE Ec n1 eZ) fun x2=>
   some ((ah.mk 0 ([]:Str) (aj.mk 0 false 0 ([]:Str) [] []) [] []),x2,vM)
  else
   if decide (n1 < (Ec.length:Int)) then
    ak (idx Ec n1) fun e1=>
    some ((ah.mk 0 ([]:Str) (aj.mk 0 false 0 ([]:Str) [] []) [] []),e1.at_,5)
   else
    some (x1,0,0)
def kU (gQ:List aB) (text1:Str):Option (List aB):=
 if decide (0 < (text1.length:Int)) then app gQ [(aB.mk text1 false (ah.mk 0 ([]:Str) (aj.mk 0 false 0 ([]:Str) [] []) [] []))] else some gQ
def kG (s1:Str):Nat→Int→List aB→Str→Option (List aB × Int × Int)
 | 0,_,_,_=>none
 | bP + 1,ig,gQ,text1=>
  if decide (ig < (s1.length:Int)) then
   ak (sl s1 ig (s1.length:Int)) fun R7=>
   ak (strings_HasPrefix R7 ([36,36]:Str)) fun b1=>
   if b1 then
    ak (app text1 [36]) fun RQ=>
    kG s1 bP (bQ (ig + 2)) gQ RQ
   else
    ak (strings_HasPrefix R7 ([36,123]:Str)) fun b2=>
    if b2 then
     ak (vG s1 (bQ (ig + 2))) fun wo=>
     if decide (wo < 0) then
      some ([],ig,4)
     else
      ak (sl s1 (bQ (ig + 2)) wo) fun x1=>
      t_ (yF x1) fun e1 n1 ko=>
      if ko != 0 then
       some ([],(bQ ((bQ (ig + 2)) + n1)),ko)
      else
       ak (kU gQ text1) fun K_=>
       ak (app K_ [(aB.mk ([]:Str) true e1)]) fun K9=>
       kG s1 bP (bQ (wo + 1)) K9 []
    else
     ak (idx s1 ig) fun c1=>
     ak (app text1 [c1]) fun RP=>
     kG s1 bP (bQ (ig + 1)) gQ RP
  else
   ak (kU gQ text1) fun Pp=>
   some (Pp,0,0)
def l6 (s1:Str):Option (List aB × Int × Int):=
 if decide (4096 < (s1.length:Int)) then
  some ([],0,3)
 else
  kG s1 BIG 0 [] []
def wR (dK:List bO):Nat→Int→List (Str × Int)→Option Int
 | 0,_,_=>none
 | bP + 1,x1,y1=>
  if decide (x1 < (dK.length:Int)) then
   ak (idx dK x1) fun e1=>
   ak (ji (ah.mk 2 e1.name (aj.mk 0 false 0 ([]:Str) [] []) [] [])) fun x2=>
   if x2 != 0 then
    some 1
   else
    ak (jR e1.value) fun e2=>
    if e2 != 0 then
     some e2
    else
     if decide (1 < (nX (oQ y1 e1.name (bQ ((nX y1 e1.name) + 1))) e1.name)) then
      some 7
     else
      wR dK bP (bQ (x1 + 1)) (oQ y1 e1.name (bQ ((nX y1 e1.name) + 1)))
  else
   some 0
def DR (dK:List bO):Option Int:=
 if decide (1024 < (dK.length:Int)) then
  some 3
 else
  wR dK BIG 0 []
def Aw (e1:ah) (dK:List bO):Option (List bO × Int):=
 ak (DR dK) fun f1=>
 if f1 != 0 then
  some ([],f1)
 else
  ak (ji e1) fun f2=>
  if f2 != 0 then
   some ([],f2)
  else
   some (dK,0)
def l8 (s1:List bO) (name1:Str):Nat→Int→Option (iT aY aj)
 | 0,_=>none
 | bP + 1,x1=>
  if decide (x1 < (s1.length:Int)) then
   ak (idx s1 x1) fun e1=>
   if e1.name == name1 then
    some (.ok e1.value)
   else
    l8 s1 name1 bP (bQ (x1 + 1))
  else
   none
def tL (s1:List bO) (name1:Str):Option (iT aY aj):=
 l8 s1 name1 BIG 0
def xW (a1:aj) (b1:aj) (qc:Int):Option Bool:=
 some ((a1.kind == qc) && (b1.kind == qc))
def uT (ok1:Bool) (e1:Int):Option (iT aY Unit):=
 if !ok1 then
  none
 else
  some (.ok ())
def yS (n1:Int):Option aj:=
 some (aj.mk 2 false n1 ([]:Str) [] [])
def Av (n1:Int):Option (iT aY aj):=
 vX (uT ((decide ((-9007199254740992)≤n1)) && (decide (n1≤9007199254740992))) 11) (fun e1=>some (.bad e1)) fun _=>
 ak (yS n1) fun x1=>
 some (.ok x1)
def Ij (a1:aj) (b1:aj):Option (iT aY aj):=
 ak (xW a1 b1 2) fun x1=>
 if x1 then
  vX (Av (bQ (a1.iG + b1.iG))) (fun e1=>some (.bad e1)) fun x2=>
  some (.ok x2)
 else
  ak (xW a1 b1 3) fun x3=>
  if x3 then
   vX (uT (decide ((bQ ((a1.jK.length:Int) + (b1.jK.length:Int)))≤4096)) 3) (fun e2=>some (.bad e2)) fun _=>
   none
  else
   ak (xW a1 b1 4) fun x4=>
   vX (uT x4 9) (fun e3=>some (.bad e3)) fun _=>
   vX (uT (decide ((bQ ((a1.aW.length:Int) + (b1.aW.length:Int)))≤1024)) 3) (fun e4=>some (.bad e4)) fun _=>
   ak (app [] a1.aW) fun l1=>
   none
def qY (dG:List bO→ah→Option (iT aY aj)) (dP:List bO→ah→Option (iT aY aj)) (s1:List bO) (e1:ah):Option (iT aY aj):=
 if e1.kind == 1 then
  some (.ok e1.value)
 else
  if e1.kind == 2 then
   vX (tL s1 e1.name) (fun e2=>some (.bad e2)) fun x1=>
   some (.ok x1)
  else
   if e1.kind == 3 then
    none
   else
    if e1.kind == 4 then
     ak (idx e1.args 0) fun e3=>
     vX (dG s1 e3) (fun e4=>some (.bad e4)) fun x2=>
     none
    else
     if e1.kind == 5 then
      none
     else
      if e1.kind == 6 then
       none
      else
       if e1.kind == 7 then
        vX (dP s1 e1) (fun e5=>some (.bad e5)) fun x3=>
        some (.ok x3)
       else
        if e1.kind == 8 then
         none
        else
         if e1.kind == 9 then
          none
         else
          none
def oG (dG:List bO→ah→Option (iT aY aj)) (dP:List bO→ah→Option (iT aY aj)) (s1:List bO) (e1:ah):Option (iT aY aj):=
 ak (idx e1.args 0) fun e2=>
 vX (dG s1 e2) (fun e3=>some (.bad e3)) fun x1=>
 if (e1.name == ([38,38]:Str)) || (e1.name == ([124,124]:Str)) then
  none
 else
  ak (idx e1.args 1) fun e4=>
  vX (dG s1 e4) (fun e5=>some (.bad e5)) fun x2=>
  if e1.name == ([61,61]:Str) then
   none
  else
   if e1.name == ([33,61]:Str) then
    none
   else
    if e1.name == ([60]:Str) then
     none
    else
     if e1.name == ([60,61]:Str) then
      none
     else
      if e1.name == ([62]:Str) then
       none
      else
       if e1.name == ([62,61]:Str) then
        none
       else
        if e1.name == ([43]:Str) then
         vX (Ij x1 x2) (fun e6=>some (.bad e6)) fun x3=>
         some (.ok x3)
        else
         none
mutual
def iQ :Nat→List bO→ah→Option (iT aY aj)
 | 0,_,_=>none
 | k + 1,FH,eD=>qY (iQ k) (gN k) FH eD
def gN :Nat→List bO→ah→Option (iT aY aj)
 | 0,_,_=>none
 | k + 1,FH,eD=>oG (iQ k) (gN k) FH eD
end
def zx (FH:List bO) (eD:ah):Option (iT aY aj):=iQ BIG FH eD
def DN (FH:List bO) (eD:ah):Option (iT aY aj):=gN BIG FH eD
def vK (s1:List bO) (e1:ah):Option (aj × Int):=
 vX (zx s1 e1) (fun f1=>some ((aj.mk 0 false 0 ([]:Str) [] []),f1.code)) fun v1=>
 some (v1,0)
def sD (iI:aj→Option aj) (v1:aj):Nat→Int→aj→Option aj
 | 0,_,_=>none
 | bP + 1,x1,dw=>
  if decide (x1 < (v1.aW.length:Int)) then
   ak (idx v1.aW x1) fun e1=>
   ak (iI e1) fun x2=>
   ak (app dw.aW [x2]) fun x3=>
   sD iI v1 bP (bQ (x1 + 1)) (aj.mk dw.kind dw.jd dw.iG dw.jK x3 dw.keys)
  else
   ak (app dw.keys v1.keys) fun x4=>
   some (aj.mk dw.kind dw.jd dw.iG dw.jK dw.aW x4)
def yT (iI:aj→Option aj) (v1:aj):Option aj:=
 sD iI v1 BIG 0 (aj.mk v1.kind v1.jd v1.iG v1.jK [] [])
def qZ :Nat→aj→Option aj
 | 0,_=>none
 | k + 1,o8=>yT (qZ k) o8
def Ik (o8:aj):Option aj:=qZ BIG o8
def EC (e1:ah) (dK:List bO):Option (aj × Int):=
 iV (Aw e1 dK) fun s1 f1=>
 if f1 != 0 then
  some ((aj.mk 0 false 0 ([]:Str) [] []),f1)
 else
  iV (vK s1 e1) fun x1 f2=>
  ak (Ik x1) fun x2=>
  some (x2,f2)
def jB (b1:Bool):Option Str:=
 if b1 then
  some ([116,114,117,101]:Str)
 else
  some ([102,97,108,115,101]:Str)
def strconv_FormatBool (b1:Bool):Option Str:=
 jB b1
def fJ (s1:Str):Nat→Int→Str→Option Str
 | 0,_,_=>none
 | bP + 1,i1,b2=>
  if decide (i1 < (s1.length:Int)) then
   ak (idx s1 i1) fun c1=>
   if ((c1.toNat:Int) == 34) || ((c1.toNat:Int) == 92) then
    ak (app b2 [92]) fun b3=>
    ak (app b3 [c1]) fun b4=>
    fJ s1 bP (bQ (i1 + 1)) b4
   else
    if (c1.toNat:Int) == 10 then
     ak (app b2 ([92,110]:Str)) fun b5=>
     fJ s1 bP (bQ (i1 + 1)) b5
    else
     if (c1.toNat:Int) == 9 then
      ak (app b2 ([92,116]:Str)) fun b6=>
      fJ s1 bP (bQ (i1 + 1)) b6
     else
      if (decide (32≤(c1.toNat:Int))) && (decide ((c1.toNat:Int)≤126)) then
       ak (app b2 [c1]) fun b7=>
       fJ s1 bP (bQ (i1 + 1)) b7
      else
       ak (app b2 ([92,120]:Str)) fun b8=>
       ak (idx ([48,49,50,51,52,53,54,55,56,57,97,98,99,100,101,102]:Str) ((c1 / 16).toNat:Int)) fun x1=>
       ak (app b8 [x1]) fun b9=>
       ak (idx ([48,49,50,51,52,53,54,55,56,57,97,98,99,100,101,102]:Str) ((c1 % 16).toNat:Int)) fun x2=>
       ak (app b9 [x2]) fun b10=>
       fJ s1 bP (bQ (i1 + 1)) b10
  else
   app b2 [34]
def kK (s1:Str):Option Str:=
 ak (app [] [34]) fun b1=>
 fJ s1 BIG 0 b1
def strings_Join (l1:List Str) (t1:Str):Option Str:=
 if l1.length≤140737488355328∧(fB l1 t1).length≤140737488355328 then some (fB l1 t1) else none
def iC (b_:aj→Option Str) (v1:aj):Nat→List Str→Int→Option Str
 | 0,_,_=>none
 | bP + 1,jM,i1=>
  if decide (i1 < (v1.aW.length:Int)) then
   ak (idx v1.aW i1) fun e1=>
   if v1.kind == 5 then
    ak (idx v1.keys i1) fun e2=>
    ak (kK e2) fun x4=>
    ak (app x4 ([58,32]:Str)) fun x5=>
    ak (b_ e1) fun x6=>
    ak (app x5 x6) fun x7=>
    ak (app jM ([x7]:List Str)) fun CG=>
    iC b_ v1 bP CG (bQ (i1 + 1))
   else
    ak (b_ e1) fun x8=>
    ak (app jM ([x8]:List Str)) fun CB=>
    iC b_ v1 bP CB (bQ (i1 + 1))
  else
   ak (strings_Join jM ([44,32]:Str)) fun s3=>
   if v1.kind == 5 then
    ak (app ([123]:Str) s3) fun x9=>
    app x9 ([125]:Str)
   else
    ak (app ([91]:Str) s3) fun Cu=>
    app Cu ([93]:Str)
def jT (b_:aj→Option Str) (v1:aj):Nat→List Str→Int→Option Str
 | 0,_,_=>none
 | KA + 1,w_,i2=>
  if decide (i2 < (v1.aW.length:Int)) then
   ak (idx v1.aW i2) fun e3=>
   ak (idx v1.keys i2) fun e4=>
   ak (kK e4) fun N9=>
   ak (app N9 ([58,32]:Str)) fun Mq=>
   ak (b_ e3) fun Rf=>
   ak (app Mq Rf) fun Kc=>
   ak (app w_ ([Kc]:List Str)) fun Oo=>
   jT b_ v1 KA Oo (bQ (i2 + 1))
  else
   ak (strings_Join w_ ([44,32]:Str)) fun s5=>
   ak (app ([123]:Str) s5) fun Mg=>
   app Mg ([125]:Str)
def o7 (b_:aj→Option Str) (v1:aj):Option Str:=
 if v1.kind == 1 then
  strconv_FormatBool v1.jd
 else
  if v1.kind == 2 then
   strconv_Itoa v1.iG
  else
   if v1.kind == 3 then
    kK v1.jK
   else
    if v1.kind == 4 then
     iC b_ v1 BIG [] 0
    else
     if v1.kind == 5 then
      jT b_ v1 BIG [] 0
     else
      some ([110,117,108,108]:Str)
def dF :Nat→aj→Option Str
 | 0,_=>none
 | k + 1,o8=>o7 (dF k) o8
def r_ (o8:aj):Option Str:=dF BIG o8
def Cx (v1:aj):Option (Str × Int):=
 if (v1.kind == 4) || (v1.kind == 5) then
  some (([]:Str),9)
 else
  ak (jR v1) fun e1=>
  if e1 != 0 then
   some (([]:Str),e1)
  else
   if v1.kind == 0 then
    some (([]:Str),0)
   else
    if v1.kind == 3 then
     some (v1.jK,0)
    else
     ak (r_ v1) fun x1=>
     some (x1,0)
def tK (p1:aB) (dK:List bO):Option (Str × Int):=
 if !p1.Oz then
  some (p1.text,0)
 else
  iV (EC p1.expr dK) fun x1 ko=>
  if ko != 0 then
   some (([]:Str),ko)
  else
   Cx x1
def nY (dK:List bO) (ps1:List aB):Nat→Int→Str→Option (Str × Int)
 | 0,_,_=>none
 | bP + 1,x2,b1=>
  if decide (x2 < (ps1.length:Int)) then
   ak (idx ps1 x2) fun e1=>
   iV (tK e1 dK) fun t1 PS=>
   if PS != 0 then
    some (([]:Str),PS)
   else
    ak (app b1 t1) fun b2=>
    nY dK ps1 bP (bQ (x2 + 1)) b2
  else
   if decide (4096 < (b1.length:Int)) then
    some (([]:Str),3)
   else
    some (b1,0)
def xk (s1:Str) (dK:List bO):Option (Str × Int):=
 t_ (l6 s1) fun ps1 x1 ko=>
 if ko != 0 then
  some (([]:Str),ko)
 else
  ak (DR dK) fun vM=>
  if vM != 0 then
   some (([]:Str),vM)
  else
   nY dK ps1 BIG 0 []
def iZ {β:Type} (y:β→ah→Option (Bool × β)) (ps1:List aB):Nat→β→Int→Option β
 | 0,_,_=>none
 | bP + 1,s1,i1=>
  if decide (i1 < (ps1.length:Int)) then
   ak (idx ps1 i1) fun p1=>
   if p1.Oz then
    iV (y s1 p1.expr) fun b1 s2=>
    if !b1 then
     some s2
    else
     iZ y ps1 bP s2 (bQ (i1 + 1))
   else
    iZ y ps1 bP s1 (bQ (i1 + 1))
  else
   some s1
def l5 {β:Type} (y:β→ah→Option (Bool × β)) (s1:β) (ps1:List aB):Option β:=iZ y ps1 BIG s1 0
def yQ (Am:List Str):Option (List Str):=
 if (Am.all fun s=>decide (s.length < 4611686018427387904)) && decide (Am.length≤zl) then some (SQ Am) else none
def jW (go:ah→List Str→Option (List Str)) (e1:ah):Nat→List Str→Int→Option (List Str)
 | 0,_,_=>none
 | bP + 1,dw,i1=>
  if decide (i1 < (e1.args.length:Int)) then
   ak (idx e1.args i1) fun a1=>
   ak (go a1 dw) fun yG=>
   jW go e1 bP yG (bQ (i1 + 1))
  else
   some dw
def tO (go:ah→List Str→Option (List Str)) (e1:ah) (dw:List Str):Option (List Str):=
 if e1.kind == 2 then
  ak (app dw [e1.name]) fun yG=>
  jW go e1 BIG yG 0
 else
  jW go e1 BIG dw 0
def pz :Nat→ah→List Str→Option (List Str)
 | 0,_,_=>none
 | k + 1,e1,dw=>tO (pz k) e1 dw
def AL (e1:ah):Option (List Str):=
 ak (pz BIG e1 []) fun dw=>
 yQ dw
def qQ (a1:List ah) (x1:ah):Option (Bool × List ah):=
 ak (app a1 [x1]) fun a2=>
 some (true,a2)
def yP (s1:Str):Option (List Str × Int):=
 t_ (l6 s1) fun ps1 _ ko=>
 if ko != 0 then
  some ([],ko)
 else
  ak (l5 qQ [] ps1) fun a1=>
  ak (AL (ah.mk 9 ([]:Str) (aj.mk 0 false 0 ([]:Str) [] []) a1 [])) fun x1=>
  some (x1,0)
def uZ (v1:aj):Option Str:=
 ak (jR v1) fun x1=>
 if x1 != 0 then
  some ([]:Str)
 else
  r_ v1
def qF (e1:ah):Option Int:=
 if e1.kind == 8 then
  some 1
 else
  if e1.kind == 7 then
   eF e1.name
  else
   if e1.kind == 6 then
    some 7
   else
    if ((e1.kind == 1) && (e1.value.kind == 2)) && (decide (e1.value.iG < 0)) then
     some 7
    else
     some 8
def fK (s1:Str):Nat→Int→Str→Option Str
 | 0,_,_=>none
 | bP + 1,i1,b2=>
  if decide (i1 < (s1.length:Int)) then
   ak (idx s1 i1) fun c1=>
   if ((c1.toNat:Int) == 34) || ((c1.toNat:Int) == 92) then
    ak (sl s1 i1 (bQ (i1 + 1))) fun x1=>
    ak (app ([92]:Str) x1) fun x2=>
    ak (app b2 x2) fun b3=>
    fK s1 bP (bQ (i1 + 1)) b3
   else
    if (c1.toNat:Int) == 10 then
     ak (app b2 ([92,110]:Str)) fun b4=>
     fK s1 bP (bQ (i1 + 1)) b4
    else
     if (c1.toNat:Int) == 9 then
      ak (app b2 ([92,116]:Str)) fun b5=>
      fK s1 bP (bQ (i1 + 1)) b5
     else
      if (decide ((c1.toNat:Int) < 32)) || (decide (126 < (c1.toNat:Int))) then
       ak (sl ([48,49,50,51,52,53,54,55,56,57,97,98,99,100,101,102]:Str) ((c1 / 16).toNat:Int) (((c1 / 16) + 1).toNat:Int)) fun x3=>
       ak (app ([92,120]:Str) x3) fun x4=>
       ak (sl ([48,49,50,51,52,53,54,55,56,57,97,98,99,100,101,102]:Str) ((c1 % 16).toNat:Int) (((c1 % 16) + 1).toNat:Int)) fun x5=>
       ak (app x4 x5) fun x6=>
       ak (app b2 x6) fun b6=>
       fK s1 bP (bQ (i1 + 1)) b6
      else
       ak (app b2 [c1]) fun b7=>
       fK s1 bP (bQ (i1 + 1)) b7
  else
   app b2 [34]
def nK (s1:Str):Option Str:=
 ak (app [] [34]) fun b1=>
 fK s1 BIG 0 b1
def dU (cO:ah→Option Str) (bE:ah→Int→Option Str) (dJ:ah→Option Str) (e1:ah):Option Str:=
 if e1.kind == 1 then
  uZ e1.value
 else
  if e1.kind == 2 then
   some e1.name
  else
   if e1.kind == 3 then
    ak (idx e1.args 0) fun e2=>
    ak (bE e2 8) fun x2=>
    ak (app x2 ([46]:Str)) fun x3=>
    app x3 e1.name
   else
    if e1.kind == 4 then
     ak (idx e1.args 0) fun e3=>
     ak (bE e3 8) fun x5=>
     ak (app x5 ([91]:Str)) fun x6=>
     ak (idx e1.args 1) fun e4=>
     ak (bE e4 1) fun x7=>
     ak (app x6 x7) fun x8=>
     app x8 ([93]:Str)
    else
     if e1.kind == 5 then
      ak (app e1.name ([40]:Str)) fun NU=>
      ak (dJ e1) fun Cu=>
      ak (app NU Cu) fun Qa=>
      app Qa ([41]:Str)
     else
      if e1.kind == 6 then
       ak (idx e1.args 0) fun e5=>
       ak (bE e5 7) fun Mq=>
       app e1.name Mq
      else
       if e1.kind == 7 then
        ak (eF e1.name) fun n1=>
        if n1 == 4 then
         ak (idx e1.args 0) fun e6=>
         ak (bE e6 (bQ (n1 + 1))) fun Kc=>
         ak (app Kc ([32]:Str)) fun Mg=>
         ak (app Mg e1.name) fun V7=>
         ak (app V7 ([32]:Str)) fun XW=>
         ak (idx e1.args 1) fun e7=>
         ak (bE e7 (bQ (n1 + 1))) fun XV=>
         app XW XV
        else
         ak (idx e1.args 0) fun e8=>
         ak (bE e8 n1) fun Vq=>
         ak (app Vq ([32]:Str)) fun x23=>
         ak (app x23 e1.name) fun x24=>
         ak (app x24 ([32]:Str)) fun x25=>
         ak (idx e1.args 1) fun e9=>
         ak (bE e9 (bQ (n1 + 1))) fun Vp=>
         app x25 Vp
       else
        if e1.kind == 8 then
         ak (idx e1.args 0) fun e10=>
         ak (bE e10 2) fun x28=>
         ak (app x28 ([32,63,32]:Str)) fun x29=>
         ak (idx e1.args 1) fun e11=>
         ak (bE e11 1) fun Vo=>
         ak (app x29 Vo) fun x31=>
         ak (app x31 ([32,58,32]:Str)) fun x32=>
         ak (idx e1.args 2) fun e12=>
         ak (bE e12 1) fun Vn=>
         app x32 Vn
        else
         if e1.kind == 9 then
          ak (dJ e1) fun XU=>
          ak (app ([91]:Str) XU) fun XT=>
          app XT ([93]:Str)
         else
          ak (dJ e1) fun x38=>
          ak (app ([123]:Str) x38) fun x39=>
          app x39 ([125]:Str)
def uw (cO:ah→Option Str) (bE:ah→Int→Option Str) (dJ:ah→Option Str) (e1:ah) (Bo:Int):Option Str:=
 ak (qF e1) fun x1=>
 if decide (x1 < Bo) then
  ak (cO e1) fun x2=>
  ak (app ([40]:Str) x2) fun x3=>
  app x3 ([41]:Str)
 else
  cO e1
def iM (bE:ah→Int→Option Str) (e1:ah):Nat→List Str→Int→Option Str
 | 0,_,_=>none
 | bP + 1,jM,i1=>
  if decide (i1 < (e1.args.length:Int)) then
   ak (idx e1.args i1) fun e2=>
   ak (bE e2 1) fun s1=>
   if e1.kind == 10 then
    ak (idx e1.keys i1) fun e3=>
    ak (nK e3) fun x1=>
    ak (app x1 ([58,32]:Str)) fun x2=>
    ak (app x2 s1) fun s2=>
    ak (app jM ([s2]:List Str)) fun CG=>
    iM bE e1 bP CG (bQ (i1 + 1))
   else
    ak (app jM ([s1]:List Str)) fun CB=>
    iM bE e1 bP CB (bQ (i1 + 1))
  else
   strings_Join jM ([44,32]:Str)
def oO (cO:ah→Option Str) (bE:ah→Int→Option Str) (dJ:ah→Option Str) (e1:ah):Option Str:=
 iM bE e1 BIG [] 0
mutual
def bC :Nat→ah→Option Str
 | 0,_=>none
 | k + 1,eD=>dU (bC k) (dV k) (fZ k) eD
def dV :Nat→ah→Int→Option Str
 | 0,_,_=>none
 | k + 1,eD,jJ=>uw (bC k) (dV k) (fZ k) eD jJ
def fZ :Nat→ah→Option Str
 | 0,_=>none
 | k + 1,eD=>oO (bC k) (dV k) (fZ k) eD
end
def Ca (eD:ah):Option Str:=bC BIG eD
def Oq (eD:ah) (jJ:Int):Option Str:=dV BIG eD jJ
def MW (eD:ah):Option Str:=fZ BIG eD
def kS (e1:ah):Option Str:=
 ak (ji e1) fun x1=>
 if x1 != 0 then
  some ([]:Str)
 else
  Ca e1
def strings_ReplaceAll (s1:Str) (UK:Str) (new1:Str):Option Str:=
 if s1.length < 4294967281∧UK=[36]∧new1=[36,36] then some (s1.flatMap fun x=>if x == 36 then [36,36] else [x]) else none
def lJ (ps1:List aB):Nat→Int→Str→Option Str
 | 0,_,_=>none
 | bP + 1,x1,b1=>
  if decide (x1 < (ps1.length:Int)) then
   ak (idx ps1 x1) fun e1=>
   if e1.Oz then
    ak (kS e1.expr) fun x2=>
    ak (app ([36,123]:Str) x2) fun x3=>
    ak (app x3 ([125]:Str)) fun x4=>
    ak (app b1 x4) fun b2=>
    lJ ps1 bP (bQ (x1 + 1)) b2
   else
    ak (strings_ReplaceAll e1.text ([36]:Str) ([36,36]:Str)) fun x5=>
    ak (app b1 x5) fun b3=>
    lJ ps1 bP (bQ (x1 + 1)) b3
  else
   some b1
def qd (ps1:List aB):Option Str:=
 lJ ps1 BIG 0 []
def pW (gT:Int):Option Str:=
 if (decide (gT < 0)) || (decide (8≤gT)) then
  some ([]:Str)
 else
  idx ([([97,110,121]:Str),([110,117,108,108]:Str),([98,111,111,108]:Str),([105,110,116]:Str),([115,116,114,105,110,103]:Str),([108,105,115,116]:Str),([109,97,112]:Str),([110,101,118,101,114]:Str)]:List Str) gT
def iH (gT:Int):Option Bool:=
 some ((gT == 5) || (gT == 6))
def iw :Nat→Int→ay→Option Int
 | 0,_,_=>none
 | bP + 1,bf,t2=>
  if decide (16 < bf) then
   some 13
  else
   ak (pW t2.kind) fun x1=>
   ak (
     if x1 == ([]:Str) then
      some true
     else
      ak (iH t2.kind) fun x2=>
      some (x2 && ((t2.elem.length:Int) != 1))) fun b1=>
   ak (
     if b1 then
      some true
     else
      ak (iH t2.kind) fun x3=>
      some ((!x3) && ((t2.elem.length:Int) != 0))) fun b2=>
   if b2 then
    some 1
   else
    ak (iH t2.kind) fun x4=>
    if !x4 then
     some 0
    else
     ak (idx t2.elem 0) fun e1=>
     iw bP (bQ (bf + 1)) e1
def jP (t1:ay):Option Int:=
 iw BIG 1 t1
def uJ (dK:List bF):Nat→Int→List (Str × Int)→Option Int
 | 0,_,_=>none
 | bP + 1,x1,y1=>
  if decide (x1 < (dK.length:Int)) then
   ak (idx dK x1) fun e1=>
   ak (ji (ah.mk 2 e1.name (aj.mk 0 false 0 ([]:Str) [] []) [] [])) fun x2=>
   if x2 != 0 then
    some 1
   else
    ak (jP e1.zU) fun e2=>
    if e2 != 0 then
     some e2
    else
     if decide (1 < (nX (oQ y1 e1.name (bQ ((nX y1 e1.name) + 1))) e1.name)) then
      some 7
     else
      uJ dK bP (bQ (x1 + 1)) (oQ y1 e1.name (bQ ((nX y1 e1.name) + 1)))
  else
   some 0
def BF (dK:List bF):Option Int:=
 if decide (1024 < (dK.length:Int)) then
  some 3
 else
  uJ dK BIG 0 []
def fU (gT:Int):Option ay:=
 some (ay.mk gT [])
def u6 (mI:ay→Option ay) (t1:ay):Option ay:=
 ak (iH t1.kind) fun x1=>
 if !x1 then
  fU t1.kind
 else
  none
def nD :Nat→ay→Option ay
 | 0,_=>none
 | k + 1,NV=>u6 (nD k) NV
def yu (NV:ay):Option ay:=nD BIG NV
def wZ (nL:ay→ay→Option ay) (a1:ay) (b1:ay):Option ay:=
 if a1.kind == 7 then
  yu b1
 else
  if b1.kind == 7 then
   yu a1
  else
   if a1.kind != b1.kind then
    fU 0
   else
    ak (iH a1.kind) fun x4=>
    if x4 then
     none
    else
     fU a1.kind
def oK :Nat→ay→ay→Option ay
 | 0,_,_=>none
 | k + 1,FL,FJ=>wZ (oK k) FL FJ
def zR (FL:ay) (FJ:ay):Option ay:=oK BIG FL FJ
def qm (h_:aj→Option ay) (v1:aj):Nat→Int→ay→Option ay
 | 0,_,_=>none
 | bP + 1,x6,Io=>
  if decide (x6 < (v1.aW.length:Int)) then
   ak (idx v1.aW x6) fun e1=>
   ak (h_ e1) fun x7=>
   ak (zR Io x7) fun x8=>
   qm h_ v1 bP (bQ (x6 + 1)) x8
  else
   if v1.kind == 4 then
    none
   else
    none
def w9 (h_:aj→Option ay) (v1:aj):Option ay:=
 if v1.kind == 0 then
  fU 1
 else
  if v1.kind == 1 then
   fU 2
  else
   if v1.kind == 2 then
    fU 3
   else
    if v1.kind == 3 then
     fU 4
    else
     ak (fU 7) fun x5=>
     qm h_ v1 BIG 0 x5
def oL :Nat→aj→Option ay
 | 0,_=>none
 | k + 1,o8=>w9 (oL k) o8
def EZ (o8:aj):Option ay:=oL BIG o8
def Eb (v1:aj):Option ay:=
 ak (jR v1) fun x1=>
 if x1 != 0 then
  fU 0
 else
  EZ v1
def ni (dK:List bF) (name1:Str):Nat→Int→Option (ay × Int)
 | 0,_=>none
 | bP + 1,x1=>
  if decide (x1 < (dK.length:Int)) then
   ak (idx dK x1) fun e1=>
   if e1.name == name1 then
    some (e1.zU,0)
   else
    ni dK name1 bP (bQ (x1 + 1))
  else
   some ((ay.mk 0 []),10)
def vO (dK:List bF) (name1:Str):Option (ay × Int):=
 ni dK name1 BIG 0
def iR (gT:Int):Option ay:=
 some (ay.mk gT [])
def jD (gT:Int) (c1:ay) (c2:ay):Option Bool:=
 none
def gV (t1:ay):Option Bool:=
 some ((t1.kind == 0) || (t1.kind == 7))
def gH (a1:ay) (b1:ay) (gT:Int):Option Bool:=
 ak (gV a1) fun x1=>
 ak (
   if x1 || (a1.kind == gT) then
    ak (gV b1) fun x2=>
    some (x2 || (b1.kind == gT))
   else
    some false) fun b2=>
 some (b2 && ((a1.kind == gT) || (b1.kind == gT)))
def zS (a1:ay) (b1:ay):Option Bool:=
 ak (jP a1) fun x1=>
 if x1 == 0 then
  ak (jP b1) fun x2=>
  some (x2 == 0)
 else
  some false
def zT (a1:ay) (b1:ay):Option ay:=
 ak (zS a1 b1) fun x1=>
 if !x1 then
  fU 0
 else
  zR a1 b1
def EI (a1:ay) (b1:ay):Option (ay × Int):=
 ak (gV a1) fun x1=>
 ak (
   if x1 then
    gV b1
   else
    some false) fun b2=>
 if b2 then
  if (a1.kind == 0) || (b1.kind == 0) then
   ak (iR 0) fun x3=>
   some (x3,0)
  else
   ak (iR 7) fun x4=>
   some (x4,0)
 else
  ak (gH a1 b1 3) fun x5=>
  if x5 then
   ak (iR 3) fun x6=>
   some (x6,0)
  else
   ak (gH a1 b1 4) fun x7=>
   if x7 then
    ak (iR 4) fun x8=>
    some (x8,0)
   else
    ak (gH a1 b1 5) fun x9=>
    if x9 then
     none
    else
     some ((ay.mk 0 []),9)
def za (op1:Str) (a1:ay) (b1:ay):Option (ay × Int):=
 if op1 == ([38,38]:Str) then
  ak (jD 2 a1 b1) fun x1=>
  if x1 then
   ak (iR 2) fun x2=>
   some (x2,0)
  else
   some ((ay.mk 0 []),9)
 else
  if op1 == ([124,124]:Str) then
   ak (jD 2 a1 b1) fun x3=>
   if x3 then
    ak (iR 2) fun x4=>
    some (x4,0)
   else
    some ((ay.mk 0 []),9)
  else
   if op1 == ([61,61]:Str) then
    ak (iR 2) fun x5=>
    some (x5,0)
   else
    if op1 == ([33,61]:Str) then
     ak (iR 2) fun x6=>
     some (x6,0)
    else
     if op1 == ([60]:Str) then
      ak (gV a1) fun x7=>
      ak (
        if x7 then
         gV b1
        else
         some false) fun b2=>
      ak (
        if b2 then
         some true
        else
         gH a1 b1 3) fun b3=>
      ak (
        if b3 then
         some true
        else
         gH a1 b1 4) fun b4=>
      if b4 then
       ak (iR 2) fun Cu=>
       some (Cu,0)
      else
       some ((ay.mk 0 []),9)
     else
      if op1 == ([60,61]:Str) then
       ak (gV a1) fun Qa=>
       ak (
         if Qa then
          gV b1
         else
          some false) fun b5=>
       ak (
         if b5 then
          some true
         else
          gH a1 b1 3) fun b6=>
       ak (
         if b6 then
          some true
         else
          gH a1 b1 4) fun b7=>
       if b7 then
        ak (iR 2) fun Kc=>
        some (Kc,0)
       else
        some ((ay.mk 0 []),9)
      else
       if op1 == ([62]:Str) then
        ak (gV a1) fun Mg=>
        ak (
          if Mg then
           gV b1
          else
           some false) fun b8=>
        ak (
          if b8 then
           some true
          else
           gH a1 b1 3) fun b9=>
        ak (
          if b9 then
           some true
          else
           gH a1 b1 4) fun b10=>
        if b10 then
         ak (iR 2) fun x21=>
         some (x21,0)
        else
         some ((ay.mk 0 []),9)
       else
        if op1 == ([62,61]:Str) then
         ak (gV a1) fun Vq=>
         ak (
           if Vq then
            gV b1
           else
            some false) fun b11=>
         ak (
           if b11 then
            some true
           else
            gH a1 b1 3) fun b12=>
         ak (
           if b12 then
            some true
           else
            gH a1 b1 4) fun b13=>
         if b13 then
          ak (iR 2) fun Vp=>
          some (Vp,0)
         else
          some ((ay.mk 0 []),9)
        else
         if op1 == ([45]:Str) then
          ak (jD 3 a1 b1) fun x27=>
          if x27 then
           ak (iR 3) fun x28=>
           some (x28,0)
          else
           some ((ay.mk 0 []),9)
         else
          if op1 == ([42]:Str) then
           ak (jD 3 a1 b1) fun x29=>
           if x29 then
            ak (iR 3) fun Vo=>
            some (Vo,0)
           else
            some ((ay.mk 0 []),9)
          else
           if op1 == ([47]:Str) then
            ak (jD 3 a1 b1) fun x31=>
            if x31 then
             ak (iR 3) fun x32=>
             some (x32,0)
            else
             some ((ay.mk 0 []),9)
           else
            if op1 == ([37]:Str) then
             ak (jD 3 a1 b1) fun Vn=>
             if Vn then
              ak (iR 3) fun x34=>
              some (x34,0)
             else
              some ((ay.mk 0 []),9)
            else
             if op1 == ([43]:Str) then
              EI a1 b1
             else
              some ((ay.mk 0 []),9)
def yZ (eP:ah→List bF→Option (ay × Int)) (jo:List ah→List bF→Option (List ay × Int)) (e1:ah) (dK:List bF):Option (ay × Int):=
 if e1.kind == 5 then
  none
 else
  iV (jo e1.args dK) fun Ec f1=>
  if f1 != 0 then
   some ((ay.mk 0 []),f1)
  else
   if e1.kind == 1 then
    ak (Eb e1.value) fun x1=>
    some (x1,0)
   else
    if e1.kind == 2 then
     vO dK e1.name
    else
     if e1.kind == 3 then
      none
     else
      if e1.kind == 4 then
       none
      else
       if e1.kind == 6 then
        none
       else
        if e1.kind == 7 then
         ak (idx Ec 0) fun e2=>
         ak (idx Ec 1) fun e3=>
         za e1.name e2 e3
        else
         if e1.kind == 8 then
          none
         else
          if e1.kind == 9 then
           none
          else
           none
def uI (eP:ah→List bF→Option (ay × Int)) (l1:List ah) (dK:List bF):Nat→List ay→Int→Option (List ay × Int)
 | 0,_,_=>none
 | bP + 1,dw,x1=>
  if decide (x1 < (l1.length:Int)) then
   ak (idx l1 x1) fun e1=>
   iV (eP e1 dK) fun x2 f1=>
   if f1 != 0 then
    some ([],f1)
   else
    ak (app dw [x2]) fun yG=>
    uI eP l1 dK bP yG (bQ (x1 + 1))
  else
   some (dw,0)
def AJ (eP:ah→List bF→Option (ay × Int)) (jo:List ah→List bF→Option (List ay × Int)) (l1:List ah) (dK:List bF):Option (List ay × Int):=
 uI eP l1 dK BIG [] 0
mutual
def l9 :Nat→ah→List bF→Option (ay × Int)
 | 0,_,_=>none
 | k + 1,eD,mD=>yZ (l9 k) (nP k) eD mD
def nP :Nat→List ah→List bF→Option (List ay × Int)
 | 0,_,_=>none
 | k + 1,Rh,mD=>AJ (l9 k) (nP k) Rh mD
end
def Iw (eD:ah) (mD:List bF):Option (ay × Int):=l9 BIG eD mD
def Q0 (Rh:List ah) (mD:List bF):Option (List ay × Int):=nP BIG Rh mD
def CY (e1:ah) (dK:List bF):Option (ay × Int):=
 ak (BF dK) fun f1=>
 if f1 != 0 then
  some ((ay.mk 0 []),f1)
 else
  ak (ji e1) fun f2=>
  if f2 != 0 then
   some ((ay.mk 0 []),f2)
  else
   iV (Iw e1 dK) fun x1 f3=>
   if f3 != 0 then
    some ((ay.mk 0 []),f3)
   else
    ak (iR 7) fun x2=>
    ak (zT x1 x2) fun x3=>
    some (x3,0)
def qR (dK:List bF) (s1:Option Int) (x1:ah):Option (Bool × Option Int):=
 match s1 with
 | some _=>none
 | none=>
  iV (CY x1 dK) fun t1 ko=>
  if ko != 0 then
   some (false,some ko)
  else
   if (t1.kind == 5) || (t1.kind == 6) then
    some (false,some 9)
   else
    some (true,none)
def uE (s1:Str) (dK:List bF):Option Int:=
 t_ (l6 s1) fun ps1 _ ko=>
 if ko != 0 then
  some ko
 else
  ak (BF dK) fun vM=>
  if vM != 0 then
   some vM
  else
   ak (l5 (qR dK) none ps1) fun s2=>
   some (s2.getD 0)
def xU :Option Bool:=
 ak (app ([97]:Str) ([36]:List UInt8)) fun x1=>
 ak (app x1 ([36]:List UInt8)) fun x2=>
 ak (app x2 ([98]:Str)) fun x3=>
 ak DC fun x4=>
 ak (app x3 x4) fun x5=>
 ak (app x5 ([120,32,43,32,49,125,99]:Str)) fun s1=>
 t_ (l6 s1) fun l1 x6 e1=>
 iV (xk s1 [(bO.mk ([120]:Str) (aj.mk 2 false 2 ([]:Str) [] []))]) fun t1 f1=>
 iV (yP s1) fun n1 g1=>
 ak DC fun x7=>
 ak (app ([97]:Str) x7) fun x8=>
 ak (app x8 ([49,32,43,125]:Str)) fun x9=>
 t_ (l6 x9) fun NU ig hx1=>
 ak (
   if (e1 != 0) || ((l1.length:Int) != 3) then
    some true
   else
    ak (idx l1 0) fun e2=>
    ak (app ([97]:Str) ([36]:List UInt8)) fun Cu=>
    ak (app Cu ([98]:Str)) fun Qa=>
    some (!(e2.text == Qa))) fun b1=>
 ak (
   if b1 then
    some true
   else
    ak (idx l1 1) fun e3=>
    some (!e3.Oz)) fun b2=>
 ak (
   if b2 then
    some true
   else
    ak (idx l1 2) fun e4=>
    some (!(e4.text == ([99]:Str)))) fun b3=>
 ak (
   if b3 || (f1 != 0) then
    some true
   else
    ak (app ([97]:Str) ([36]:List UInt8)) fun N9=>
    ak (app N9 ([98,51,99]:Str)) fun Mq=>
    some (!(t1 == Mq))) fun b4=>
 if b4 then
  some false
 else
  ak (
    if (g1 == 0) && ((n1.length:Int) == 1) then
     ak (idx n1 0) fun e5=>
     some (e5 == ([120]:Str))
    else
     some false) fun b5=>
  ak (
    if (b5 && (ig == 6)) && (hx1 == 4) then
     ak (qd l1) fun Rf=>
     some (Rf == s1)
    else
     some false) fun b6=>
  ak (
    if b6 then
     ak (uE s1 [(bF.mk ([120]:Str) (ay.mk 3 []))]) fun Kc=>
     some (Kc == 0)
    else
     some false) fun b7=>
  if b7 then
   ak (uE s1 []) fun Mg=>
   some (Mg == 10)
  else
   some false
def xJ (e1:ah):Option Bool:=
 if e1.kind == 1 then
  some ((e1.args.length:Int) == 0)
 else
  if e1.kind == 2 then
   some ((e1.args.length:Int) == 0)
  else
   if e1.kind == 3 then
    some ((e1.args.length:Int) == 1)
   else
    if e1.kind == 6 then
     some ((e1.args.length:Int) == 1)
    else
     if e1.kind == 4 then
      some ((e1.args.length:Int) == 2)
     else
      if e1.kind == 7 then
       some ((e1.args.length:Int) == 2)
      else
       if e1.kind == 8 then
        some ((e1.args.length:Int) == 3)
       else
        some (((e1.kind == 5) || (e1.kind == 9)) || (e1.kind == 10))
def yA (c1:UInt8):Option Bool:=
 some ((((decide (97≤(c1.toNat:Int))) && (decide ((c1.toNat:Int)≤122))) || ((decide (65≤(c1.toNat:Int))) && (decide ((c1.toNat:Int)≤90)))) || ((c1.toNat:Int) == 95))
def Bq (c1:UInt8):Option Bool:=
 some ((decide (48≤(c1.toNat:Int))) && (decide ((c1.toNat:Int)≤57)))
def sJ (s1:Str):Nat→Int→Option Bool
 | 0,_=>none
 | bP + 1,i1=>
  if decide (i1 < (s1.length:Int)) then
   ak (idx s1 i1) fun x1=>
   ak (yA x1) fun x2=>
   ak (
     if !x2 then
      if i1 == 0 then
       some true
      else
       ak (idx s1 i1) fun x3=>
       ak (Bq x3) fun x4=>
       some (!x4)
     else
      some false) fun b1=>
   if b1 then
    some false
   else
    sJ s1 bP (bQ (i1 + 1))
  else
   some ((decide (1≤(s1.length:Int))) && (decide ((s1.length:Int)≤64)))
def z8 (s1:Str):Option Bool:=
 sJ s1 BIG 0
def rR (s1:Str):Option Bool:=
 ak (z8 s1) fun x1=>
 some (((x1 && (!(s1 == ([116,114,117,101]:Str)))) && (!(s1 == ([102,97,108,115,101]:Str)))) && (!(s1 == ([110,117,108,108]:Str))))
def nT (op1:Str):Option Int:=
 if op1 == ([124,124]:Str) then
  some 2
 else
  if op1 == ([38,38]:Str) then
   some 3
  else
   if op1 == ([61,61]:Str) then
    some 4
   else
    if op1 == ([33,61]:Str) then
     some 4
    else
     if op1 == ([60]:Str) then
      some 4
     else
      if op1 == ([60,61]:Str) then
       some 4
      else
       if op1 == ([62]:Str) then
        some 4
       else
        if op1 == ([62,61]:Str) then
         some 4
        else
         if op1 == ([43]:Str) then
          some 5
         else
          if op1 == ([45]:Str) then
           some 5
          else
           if op1 == ([42]:Str) then
            some 6
           else
            if op1 == ([47]:Str) then
             some 6
            else
             if op1 == ([37]:Str) then
              some 6
             else
              some 0
def xI (e1:ah):Option Bool:=
 if e1.kind == 2 then
  rR e1.name
 else
  if e1.kind == 3 then
   rR e1.name
  else
   if e1.kind == 5 then
    rR e1.name
   else
    if e1.kind == 6 then
     some ((e1.name == ([33]:Str)) || (e1.name == ([45]:Str)))
    else
     if e1.kind == 7 then
      ak (nT e1.name) fun x4=>
      some (decide (0 < x4))
     else
      some (e1.name == ([]:Str))
def sK (gU:aj→aj→Option Bool) (a1:aj) (b1:aj):Nat→Int→Option Bool
 | 0,_=>none
 | KA + 1,i2=>
  if decide (i2 < (a1.aW.length:Int)) then
   ak (idx a1.aW i2) fun e3=>
   ak (idx b1.aW i2) fun e4=>
   ak (gU e3 e4) fun x1=>
   if !x1 then
    some false
   else
    sK gU a1 b1 KA (bQ (i2 + 1))
  else
   some true
def sM (gU:aj→aj→Option Bool) (a1:aj) (b1:aj):Nat→Int→Option Bool
 | 0,_=>none
 | bP + 1,i1=>
  if decide (i1 < (a1.keys.length:Int)) then
   ak (idx a1.keys i1) fun e1=>
   ak (idx b1.keys i1) fun e2=>
   if !(e1 == e2) then
    some false
   else
    sM gU a1 b1 bP (bQ (i1 + 1))
  else
   sK gU a1 b1 BIG 0
def yB (gU:aj→aj→Option Bool) (a1:aj) (b1:aj):Option Bool:=
 if (((((a1.kind != b1.kind) || (!(a1.jd == b1.jd))) || (a1.iG != b1.iG)) || (!(a1.jK == b1.jK))) || ((a1.aW.length:Int) != (b1.aW.length:Int))) || ((a1.keys.length:Int) != (b1.keys.length:Int)) then
  some false
 else
  sM gU a1 b1 BIG 0
def rT :Nat→aj→aj→Option Bool
 | 0,_,_=>none
 | k + 1,FL,FJ=>yB (rT k) FL FJ
def Dr (FL:aj) (FJ:aj):Option Bool:=rT BIG FL FJ
def mO (e1:ah):Nat→Int→Option Bool
 | 0,_=>none
 | bP + 1,i1=>
  if decide (i1 < (e1.keys.length:Int)) then
   ak (idx e1.keys i1) fun e2=>
   ak (
     if decide ((e2.length:Int) < 1) then
      some true
     else
      ak (idx e1.keys i1) fun e3=>
      some (decide (64 < (e3.length:Int)))) fun b4=>
   if b4 then
    some false
   else
    mO e1 bP (bQ (i1 + 1))
  else
   some ((e1.keys.length:Int) == (e1.args.length:Int))
def vk (e1:ah):Option Bool:=
 ak (xJ e1) fun x1=>
 ak (
   if !x1 then
    some true
   else
    ak (xI e1) fun x2=>
    some (!x2)) fun b1=>
 ak (
   if b1 then
    some true
   else
    if e1.kind != 1 then
     ak (Dr e1.value (aj.mk 0 false 0 ([]:Str) [] [])) fun x3=>
     some (!x3)
    else
     some false) fun b2=>
 if b2 then
  some false
 else
  if e1.kind != 10 then
   some ((e1.keys.length:Int) == 0)
  else
   mO e1 BIG 0
def xO (v1:aj):Option Bool:=
 if ((v1.jd && (v1.kind != 1)) || ((v1.iG != 0) && (v1.kind != 2))) || ((!(v1.jK == ([]:Str))) && (v1.kind != 3)) then
  some false
 else
  if ((decide (0 < (v1.aW.length:Int))) && (v1.kind != 4)) && (v1.kind != 5) then
   some false
  else
   some (((v1.keys.length:Int) == 0) || (v1.kind == 5))
def Dq (s1:Str):Option Bool:=
 some ((decide (1≤(s1.length:Int))) && (decide ((s1.length:Int)≤64)))
def nW (Px:Bool) (DJ:Bool):Option Int:=
 if Px then
  some (-1)
 else
  if DJ then
   some 1
  else
   some 0
def uR (c1:UInt8):Option Bool:=
 some ((decide (48≤(c1.toNat:Int))) && (decide ((c1.toNat:Int)≤57)))
def vv (s1:Str):Nat→Int→Option Int
 | 0,_=>none
 | bP + 1,at2=>
  ak (
    if decide (at2 < (s1.length:Int)) then
     ak (idx s1 at2) fun x1=>
     uR x1
    else
     some false) fun b1=>
  if b1 then
   vv s1 bP (bQ (at2 + 1))
  else
   some at2
def Dt (s1:Str) (ig:Int):Option Int:=
 vv s1 BIG ig
def nV (s1:Str):Nat→Int→Option Str
 | 0,_=>none
 | bP + 1,i1=>
  ak (
    if decide (i1 < (s1.length:Int)) then
     ak (idx s1 i1) fun x1=>
     some ((x1.toNat:Int) == 48)
    else
     some false) fun b1=>
  if b1 then
   nV s1 bP (bQ (i1 + 1))
  else
   sl s1 i1 (s1.length:Int)
def uQ (s1:Str):Option Str:=
 nV s1 BIG 0
def Ab (a1:Str) (b1:Str):Option Int:=
 ak (uQ a1) fun x1=>
 ak (uQ b1) fun y1=>
 if (x1.length:Int) != (y1.length:Int) then
  nW (decide ((x1.length:Int) < (y1.length:Int))) (decide ((y1.length:Int) < (x1.length:Int)))
 else
  if !(x1 == y1) then
   nW (Go.Op.bytesLess x1 y1) (!(Go.Op.bytesLess x1 y1 || x1 == y1))
  else
   nW (decide ((a1.length:Int) < (b1.length:Int))) (decide ((b1.length:Int) < (a1.length:Int)))
def jv (a1:Str) (b1:Str):Nat→Int→Int→Option Int
 | 0,_,_=>none
 | bP + 1,i1,qc=>
  if (decide (i1 < (a1.length:Int))) && (decide (qc < (b1.length:Int))) then
   ak (idx a1 i1) fun x1=>
   ak (idx b1 qc) fun x2=>
   ak (idx a1 i1) fun x3=>
   ak (idx b1 qc) fun x4=>
   ak (nW (decide ((x1.toNat:Int) < (x2.toNat:Int))) (decide ((x4.toNat:Int) < (x3.toNat:Int)))) fun c1=>
   ak (idx a1 i1) fun x5=>
   ak (uR x5) fun x6=>
   ak (
     if x6 then
      ak (idx b1 qc) fun x7=>
      uR x7
     else
      some false) fun b2=>
   if b2 then
    ak (Dt a1 i1) fun m1=>
    ak (Dt b1 qc) fun n1=>
    ak (sl a1 i1 m1) fun x9=>
    ak (sl b1 qc n1) fun NU=>
    ak (Ab x9 NU) fun c2=>
    if c2 != 0 then
     some c2
    else
     jv a1 b1 bP m1 n1
   else
    if c1 != 0 then
     some c1
    else
     jv a1 b1 bP (bQ (i1 + 1)) (bQ (qc + 1))
  else
   nW (decide (qc < (b1.length:Int))) (decide (i1 < (a1.length:Int)))
def nI (a1:Str) (b1:Str):Option Int:=
 jv a1 b1 BIG 0 0
def jV (v1:aj):Nat→Int→Option Bool
 | 0,_=>none
 | bP + 1,i1=>
  if decide (i1 < (v1.keys.length:Int)) then
   ak (idx v1.keys i1) fun e1=>
   ak (Dq e1) fun x1=>
   ak (
     if !x1 then
      some true
     else
      if decide (0 < i1) then
       ak (idx v1.keys (bQ (i1 - 1))) fun e2=>
       ak (idx v1.keys i1) fun e3=>
       ak (nI e2 e3) fun x2=>
       some (decide (0≤x2))
      else
       some false) fun b1=>
   if b1 then
    some false
   else
    jV v1 bP (bQ (i1 + 1))
  else
   some ((v1.keys.length:Int) == (v1.aW.length:Int))
def oN (v1:aj):Option Bool:=
 jV v1 BIG 0
def qA (jm:aj→Int→Option Int) (v1:aj) (bf:Int):Nat→Int→Option Int
 | 0,_=>none
 | bP + 1,i1=>
  if decide (i1 < (v1.aW.length:Int)) then
   ak (idx v1.aW i1) fun e1=>
   ak (jm e1 (bQ (bf + 1))) fun e2=>
   if e2 != 0 then
    some e2
   else
    qA jm v1 bf bP (bQ (i1 + 1))
  else
   some 0
def wI (jm:aj→Int→Option Int) (v1:aj) (bf:Int):Option Int:=
 if decide (16 < bf) then
  some 13
 else
  ak (
    if (decide (v1.kind < 0)) || (decide (5 < v1.kind)) then
     some true
    else
     ak (xO v1) fun x1=>
     some (!x1)) fun b1=>
  if b1 then
   some 1
  else
   if (decide (v1.iG < (-9007199254740992))) || (decide (9007199254740992 < v1.iG)) then
    some 2
   else
    if ((decide (4096 < (v1.jK.length:Int))) || (decide (1024 < (v1.aW.length:Int)))) || (decide (1024 < (v1.keys.length:Int))) then
     some 3
    else
     ak (
       if v1.kind == 5 then
        ak (oN v1) fun x2=>
        some (!x2)
       else
        some false) fun b2=>
     if b2 then
      some 1
     else
      if ((decide (4≤v1.kind)) && ((v1.aW.length:Int) == 0)) && (bf == 16) then
       some 13
      else
       qA jm v1 bf BIG 0
def kR :Nat→aj→Int→Option Int
 | 0,_,_=>none
 | k + 1,o8,dA=>wI (kR k) o8 dA
def Em (o8:aj) (dA:Int):Option Int:=kR BIG o8 dA
def uP (v1:aj):Option Int:=
 Em v1 1
def nS (rH:List Str) (i1:Int) (zu:Int→Option Bool):Nat→Int→Option Bool
 | 0,_=>none
 | KA + 1,qc=>
  if decide (qc < i1) then
   ak (idx rH i1) fun e1=>
   ak (idx rH qc) fun e2=>
   if e1 == e2 then
    some true
   else
    nS rH i1 zu KA (bQ (qc + 1))
  else
   zu (bQ (i1 + 1))
def kN (rH:List Str):Nat→Int→Option Bool
 | 0,_=>none
 | bP + 1,i1=>
  if decide (i1 < (rH.length:Int)) then
   nS rH i1 (kN rH bP) BIG 0
  else
   some false
def xH (rH:List Str):Option Bool:=
 kN rH BIG 0
def qy (jk:ah→Int→Option Int) (e1:ah) (bf:Int):Nat→Int→Option Int
 | 0,_=>none
 | bP + 1,i1=>
  if decide (i1 < (e1.args.length:Int)) then
   ak (idx e1.args i1) fun e2=>
   ak (jk e2 (bQ (bf + 1))) fun f2=>
   if f2 != 0 then
    some f2
   else
    qy jk e1 bf bP (bQ (i1 + 1))
  else
   some 0
def wF (jk:ah→Int→Option Int) (e1:ah) (bf:Int):Option Int:=
 if decide (16 < bf) then
  some 13
 else
  ak (vk e1) fun x1=>
  if !x1 then
   some 1
  else
   ak (uP e1.value) fun f1=>
   if (e1.kind == 1) && (f1 != 0) then
    some f1
   else
    if decide (1024 < (e1.args.length:Int)) then
     some 3
    else
     ak (xH e1.keys) fun x2=>
     if x2 then
      some 7
     else
      qy jk e1 bf BIG 0
def kP :Nat→ah→Int→Option Int
 | 0,_,_=>none
 | k + 1,eD,dA=>wF (kP k) eD dA
def Ej (eD:ah) (dA:Int):Option Int:=kP BIG eD dA
def xK (e1:ah):Option Int:=
 ak (xM e1) fun x1=>
 if decide (4096 < x1) then
  some 15
 else
  Ej e1 1
def mP (j4:Int→Option Str) (n1:Int):Option Str:=
 if decide (n1 < 0) then
  if decide ((-10) < n1) then
   app ([45]:Str) ([(Ft.byteOf (bQ (48 - n1)))]:List UInt8)
  else
   ak (j4 (bQ ((n1:Int).tdiv 10))) fun x2=>
   app x2 ([(Ft.byteOf (bQ (48 - ((n1:Int).tmod 10))))]:List UInt8)
 else
  if decide (n1 < 10) then
   some ([(Ft.byteOf (bQ (48 + n1)))]:List UInt8)
  else
   ak (j4 (bQ ((n1:Int).tdiv 10))) fun x4=>
   app x4 ([(Ft.byteOf (bQ (48 + ((n1:Int).tmod 10))))]:List UInt8)
def fV :Nat→Int→Option Str
 | 0,_=>none
 | k + 1,FI=>mP (fV k) FI
def wJ (FI:Int):Option Str:=fV BIG FI
def oM (c1:UInt8):Option Str:=
 if (c1.toNat:Int) == 34 then
  some ([92,34]:List UInt8)
 else
  if (c1.toNat:Int) == 92 then
   some ([92,92]:List UInt8)
  else
   if (c1.toNat:Int) == 10 then
    some ([92,110]:List UInt8)
   else
    if (c1.toNat:Int) == 9 then
     some ([92,116]:List UInt8)
    else
     if (decide (32≤(c1.toNat:Int))) && (decide ((c1.toNat:Int)≤126)) then
      some ([c1]:List UInt8)
     else
      ak (idx ([48,49,50,51,52,53,54,55,56,57,97,98,99,100,101,102]:Str) ((c1 / 16).toNat:Int)) fun x1=>
      ak (idx ([48,49,50,51,52,53,54,55,56,57,97,98,99,100,101,102]:Str) ((c1 % 16).toNat:Int)) fun x2=>
      some ([92,120,x1,x2]:List UInt8)
def nU (s1:Str):Nat→Str→Int→Option Str
 | 0,_,_=>none
 | bP + 1,dw,i1=>
  if decide (i1 < (s1.length:Int)) then
   ak (idx s1 i1) fun x1=>
   ak (oM x1) fun x2=>
   ak (app dw x2) fun yG=>
   nU s1 bP yG (bQ (i1 + 1))
  else
   app dw ([34]:List UInt8)
def iD (s1:Str):Option Str:=
 nU s1 BIG ([34]:List UInt8) 0
def eH (dI:aj→Option Str) (v1:aj):Nat→Str→Int→Option Str
 | 0,_,_=>none
 | bP + 1,s1,i1=>
  if decide (i1 < (v1.aW.length:Int)) then
   if decide (0 < i1) then
    ak (app s1 ([44,32]:Str)) fun s2=>
    if v1.kind == 5 then
     ak (idx v1.keys i1) fun e1=>
     ak (iD e1) fun x3=>
     ak (app s2 x3) fun x4=>
     ak (app x4 ([58,32]:Str)) fun s3=>
     ak (idx v1.aW i1) fun e2=>
     ak (dI e2) fun x5=>
     ak (app s3 x5) fun s4=>
     eH dI v1 bP s4 (bQ (i1 + 1))
    else
     ak (idx v1.aW i1) fun e3=>
     ak (dI e3) fun x6=>
     ak (app s2 x6) fun s5=>
     eH dI v1 bP s5 (bQ (i1 + 1))
   else
    if v1.kind == 5 then
     ak (idx v1.keys i1) fun e4=>
     ak (iD e4) fun x7=>
     ak (app s1 x7) fun x8=>
     ak (app x8 ([58,32]:Str)) fun s6=>
     ak (idx v1.aW i1) fun e5=>
     ak (dI e5) fun x9=>
     ak (app s6 x9) fun s7=>
     eH dI v1 bP s7 (bQ (i1 + 1))
    else
     ak (idx v1.aW i1) fun e6=>
     ak (dI e6) fun NU=>
     ak (app s1 NU) fun s8=>
     eH dI v1 bP s8 (bQ (i1 + 1))
  else
   if v1.kind == 5 then
    ak (app ([123]:Str) s1) fun Cu=>
    app Cu ([125]:Str)
   else
    ak (app ([91]:Str) s1) fun N9=>
    app N9 ([93]:Str)
def sw (dI:aj→Option Str) (v1:aj):Option Str:=
 if v1.kind == 0 then
  some ([110,117,108,108]:Str)
 else
  if v1.kind == 1 then
   if v1.jd then
    some ([116,114,117,101]:Str)
   else
    some ([102,97,108,115,101]:Str)
  else
   if v1.kind == 2 then
    wJ v1.iG
   else
    if v1.kind == 3 then
     iD v1.jK
    else
     eH dI v1 BIG ([]:Str) 0
def dh :Nat→aj→Option Str
 | 0,_=>none
 | k + 1,o8=>sw (dh k) o8
def z_ (o8:aj):Option Str:=dh BIG o8
def Aa (v1:aj):Option Str:=
 ak (uP v1) fun x1=>
 if x1 != 0 then
  some ([]:Str)
 else
  z_ v1
def qx (e1:ah):Option Int:=
 if e1.kind == 8 then
  some 1
 else
  if e1.kind == 7 then
   nT e1.name
  else
   if e1.kind == 6 then
    some 7
   else
    if ((e1.kind == 1) && (e1.value.kind == 2)) && (decide (e1.value.iG < 0)) then
     some 7
    else
     some 8
def fF (bH:ah→Option Str) (eB:ah→Int→Option Str) (fC:ah→Option Str) (e1:ah):Option Str:=
 if e1.kind == 1 then
  Aa e1.value
 else
  if e1.kind == 2 then
   some e1.name
  else
   if e1.kind == 3 then
    ak (idx e1.args 0) fun e2=>
    ak (eB e2 8) fun x2=>
    ak (app x2 ([46]:Str)) fun x3=>
    app x3 e1.name
   else
    if e1.kind == 4 then
     ak (idx e1.args 0) fun e3=>
     ak (eB e3 8) fun x5=>
     ak (app x5 ([91]:Str)) fun x6=>
     ak (idx e1.args 1) fun e4=>
     ak (bH e4) fun x7=>
     ak (app x6 x7) fun x8=>
     app x8 ([93]:Str)
    else
     if e1.kind == 5 then
      ak (app e1.name ([40]:Str)) fun NU=>
      ak (fC e1) fun Cu=>
      ak (app NU Cu) fun Qa=>
      app Qa ([41]:Str)
     else
      if e1.kind == 6 then
       ak (idx e1.args 0) fun e5=>
       ak (eB e5 7) fun Mq=>
       app e1.name Mq
      else
       if e1.kind == 7 then
        ak (nT e1.name) fun n1=>
        if n1 == 4 then
         ak (idx e1.args 0) fun e6=>
         ak (eB e6 5) fun Kc=>
         ak (app Kc ([32]:Str)) fun Mg=>
         ak (app Mg e1.name) fun V7=>
         ak (app V7 ([32]:Str)) fun XW=>
         ak (idx e1.args 1) fun e7=>
         ak (eB e7 (bQ (n1 + 1))) fun XV=>
         app XW XV
        else
         ak (idx e1.args 0) fun e8=>
         ak (eB e8 n1) fun Vq=>
         ak (app Vq ([32]:Str)) fun x23=>
         ak (app x23 e1.name) fun x24=>
         ak (app x24 ([32]:Str)) fun x25=>
         ak (idx e1.args 1) fun e9=>
         ak (eB e9 (bQ (n1 + 1))) fun Vp=>
         app x25 Vp
       else
        if e1.kind == 8 then
         ak (idx e1.args 0) fun e10=>
         ak (eB e10 2) fun x28=>
         ak (app x28 ([32,63,32]:Str)) fun x29=>
         ak (idx e1.args 1) fun e11=>
         ak (bH e11) fun Vo=>
         ak (app x29 Vo) fun x31=>
         ak (app x31 ([32,58,32]:Str)) fun x32=>
         ak (idx e1.args 2) fun e12=>
         ak (bH e12) fun Vn=>
         app x32 Vn
        else
         if e1.kind == 9 then
          ak (fC e1) fun XU=>
          ak (app ([91]:Str) XU) fun XT=>
          app XT ([93]:Str)
         else
          ak (fC e1) fun x38=>
          ak (app ([123]:Str) x38) fun x39=>
          app x39 ([125]:Str)
def Bp (bH:ah→Option Str) (eB:ah→Int→Option Str) (fC:ah→Option Str) (e1:ah) (Pt:Int):Option Str:=
 ak (qx e1) fun x1=>
 if decide (x1 < Pt) then
  ak (bH e1) fun x2=>
  ak (app ([40]:Str) x2) fun x3=>
  app x3 ([41]:Str)
 else
  bH e1
def jr (bH:ah→Option Str) (e1:ah):Nat→Str→Int→Option Str
 | 0,_,_=>none
 | bP + 1,s1,i1=>
  if decide (i1 < (e1.args.length:Int)) then
   if decide (0 < i1) then
    ak (app s1 ([44,32]:Str)) fun s2=>
    if e1.kind == 10 then
     ak (idx e1.keys i1) fun e2=>
     ak (iD e2) fun x1=>
     ak (app s2 x1) fun x2=>
     ak (app x2 ([58,32]:Str)) fun s3=>
     ak (idx e1.args i1) fun e3=>
     ak (bH e3) fun x3=>
     ak (app s3 x3) fun s4=>
     jr bH e1 bP s4 (bQ (i1 + 1))
    else
     ak (idx e1.args i1) fun e4=>
     ak (bH e4) fun x4=>
     ak (app s2 x4) fun s5=>
     jr bH e1 bP s5 (bQ (i1 + 1))
   else
    if e1.kind == 10 then
     ak (idx e1.keys i1) fun e5=>
     ak (iD e5) fun x5=>
     ak (app s1 x5) fun x6=>
     ak (app x6 ([58,32]:Str)) fun s6=>
     ak (idx e1.args i1) fun e6=>
     ak (bH e6) fun x7=>
     ak (app s6 x7) fun s7=>
     jr bH e1 bP s7 (bQ (i1 + 1))
    else
     ak (idx e1.args i1) fun e7=>
     ak (bH e7) fun x8=>
     ak (app s1 x8) fun s8=>
     jr bH e1 bP s8 (bQ (i1 + 1))
  else
   some s1
def vo (bH:ah→Option Str) (eB:ah→Int→Option Str) (fC:ah→Option Str) (e1:ah):Option Str:=
 jr bH e1 BIG ([]:Str) 0
mutual
def bA :Nat→ah→Option Str
 | 0,_=>none
 | k + 1,eD=>fF (bA k) (kF k) (jL k) eD
def kF :Nat→ah→Int→Option Str
 | 0,_,_=>none
 | k + 1,eD,tF=>Bp (bA k) (kF k) (jL k) eD tF
def jL :Nat→ah→Option Str
 | 0,_=>none
 | k + 1,eD=>vo (bA k) (kF k) (jL k) eD
end
def G9 (eD:ah):Option Str:=bA BIG eD
def UD (eD:ah) (tF:Int):Option Str:=kF BIG eD tF
def Sd (eD:ah):Option Str:=jL BIG eD
def xL (e1:ah):Option Str:=
 ak (xK e1) fun x1=>
 if x1 != 0 then
  some ([]:Str)
 else
  G9 e1
def nH (ps1:List aB) (i1:Int) (vI:Str→Int→Option Str):Nat→Str→Int→Option Str
 | 0,_,_=>none
 | KA + 1,s3,qc=>
  ak (idx ps1 i1) fun e3=>
  if decide (qc < (e3.text.length:Int)) then
   ak (idx ps1 i1) fun e4=>
   ak (idx e4.text qc) fun x4=>
   if (x4.toNat:Int) == 36 then
    ak (app s3 ([36]:List UInt8)) fun s4=>
    ak (idx ps1 i1) fun e5=>
    ak (idx e5.text qc) fun x5=>
    ak (app s4 ([x5]:List UInt8)) fun s5=>
    nH ps1 i1 vI KA s5 (bQ (qc + 1))
   else
    ak (idx ps1 i1) fun e6=>
    ak (idx e6.text qc) fun x6=>
    ak (app s3 ([x6]:List UInt8)) fun s6=>
    nH ps1 i1 vI KA s6 (bQ (qc + 1))
  else
   vI s3 (bQ (i1 + 1))
def kM (ps1:List aB):Nat→Str→Int→Option Str
 | 0,_,_=>none
 | bP + 1,s1,i1=>
  if decide (i1 < (ps1.length:Int)) then
   ak (idx ps1 i1) fun e1=>
   if e1.Oz then
    ak (app s1 ([36,123]:List UInt8)) fun x1=>
    ak (idx ps1 i1) fun e2=>
    ak (xL e2.expr) fun x2=>
    ak (app x1 x2) fun x3=>
    ak (app x3 ([125]:List UInt8)) fun s2=>
    kM ps1 bP s2 (bQ (i1 + 1))
   else
    nH ps1 i1 (kM ps1 bP) BIG s1 0
  else
   some s1
def zZ (ps1:List aB):Option Str:=
 kM ps1 BIG ([]:Str) 0
def jf (ps1:List aB):Nat→Int→Int→Option Bool
 | 0,_,_=>none
 | bP + 1,n1,i1=>
  if (decide (i1 < (ps1.length:Int))) && (decide (n1≤5000)) then
   ak (idx ps1 i1) fun e1=>
   ak (idx ps1 i1) fun e2=>
   ak (xM e2.expr) fun x1=>
   jf ps1 bP (bQ ((bQ ((bQ (n1 + 1)) + (e1.text.length:Int))) + x1)) (bQ (i1 + 1))
  else
   if decide (5000 < n1) then
    xU
   else
    ak (qd ps1) fun x3=>
    ak (zZ ps1) fun x4=>
    if x3 == x4 then
     xU
    else
     some false
def tJ (ps1:List aB):Option Bool:=
 jf ps1 BIG 0 0
end Go.Ft
