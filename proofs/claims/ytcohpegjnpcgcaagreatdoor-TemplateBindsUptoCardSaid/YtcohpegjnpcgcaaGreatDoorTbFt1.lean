/- Proved here: nothing: the functional texts of the functions that the statements reach, as our program wrote them. -/
import Derived.Test.YtcohpegjnpcgcaaGreatDoorTbWords
set_option linter.unusedVariables false
set_option linter.unusedSimpArgs false
set_option linter.unusedSectionVars false
namespace Go.Ft
open Go
structure ah where
 kind:Int
 iD:Bool
 iC:Int
 gW:Str
 bH:List ah
 keys:List Str
structure aj where
 kind:Int
 name:Str
 value:ah
 args:List aj
 keys:List Str
structure aS where
 name:Str
 expr:aj
structure au where
 kind:Str
 name:Str
 attrs:List aS
 blocks:List au
structure dY where
 blocks:List au
structure aA where
 name:Str
 value:ah
structure aD where
 kind:Int
 elem:List aD
structure aI where
 code:Int
 deriving DecidableEq
structure jC where
 half:List (BitVec 64)
 neg:Bool
 deriving DecidableEq
structure aQ where
 name:Str
 Gs:aD
 has:Bool
 default:ah
structure bK where
 name:Str
 params:List aQ
 body:au
structure aZ where
 kind:Int
 text:Str
 at_:Int
 deriving DecidableEq
structure ak where
 ts:List aZ
 at_:Int
 deriving DecidableEq
structure aB where
 at_:Int
 code:Int
 deriving DecidableEq
structure bf where
 text:Str
 is_:Bool
 expr:aj
structure aJ where
 templates:List bK
 env:List aA
 uses:Int
structure abm where
 x:Int
 y:Int
 signed:Bool
 code:UInt8
 deriving DecidableEq
structure Dl where
 x:Int
 y:Int
 signed:Bool
 code:UInt8
 deriving DecidableEq
structure abl where
 msg:Str
 addr:BitVec 64
 deriving DecidableEq
structure vR where
 msg:Str
 addr:BitVec 64
 deriving DecidableEq
structure abk where
 blocks:List au
structure abj where
 kind:Str
 name:Str
 attrs:List aS
 blocks:List au
structure abh where
 kind:Int
 iD:Bool
 iC:Int
 gW:Str
 bH:List ah
 keys:List Str
structure abg where
 kind:Int
 name:Str
 value:ah
 args:List aj
 keys:List Str
structure abf where
 name:Str
 expr:aj
structure abe where
 name:Str
 value:ah
structure abd where
 kind:Int
 elem:List aD
structure abb where
 name:Str
 Gs:aD
 has:Bool
 default:ah
structure aa_ where
 name:Str
 params:List aQ
 body:au
structure aa9 where
 templates:List bK
 env:List aA
 uses:Int
structure aa8 where
 code:Int
 deriving DecidableEq
structure aa7 where
 text:Str
 is_:Bool
 expr:aj
structure aa6 where
 kind:Int
 text:Str
 at_:Int
 deriving DecidableEq
structure ag7 where
 half:List (BitVec 64)
 neg:Bool
 deriving DecidableEq
structure aa5 where
 ts:List aZ
 at_:Int
 deriving DecidableEq
structure aa4 where
 at_:Int
 code:Int
 deriving DecidableEq
structure aa3 where
 lo:UInt8
 hi:UInt8
 deriving DecidableEq
structure GJ where
 lo:UInt8
 hi:UInt8
 deriving DecidableEq
structure ag6 where
 func:Str
 num:Str
 err:Option Nat
structure Zh where
 func:Str
 num:Str
 err:Option Nat
structure aa2 where
 s:Str
 deriving DecidableEq
structure D7 where
 s:Str
 deriving DecidableEq
mutual
def ah.bulk :ah→Nat
 | ⟨a0,a1,a2,a3,a4,a5⟩=>1 + 1 + 1 + (a3.length + 1) + (ah.oO a4 + 1) + ((List.map (fun z:Str=>(z.length + 1)) a5).sum + 1) + 1
def ah.oO :List ah→Nat
 | []=>0
 | x :: xs=>ah.bulk x + ah.oO xs
end
theorem ah.uZ :∀ l:List ah,ah.oO l=(l.map ah.bulk).sum
 | []=>rfl
 | x :: l=>by simp only [ah.oO,List.map_cons,List.sum_cons,ah.uZ l]
theorem ah.tN (x:ah):ah.bulk x=1 + 1 + 1 + (x.gW.length + 1) + (ah.oO x.bH + 1) + ((List.map (fun z:Str=>(z.length + 1)) x.keys).sum + 1) + 1:=by cases x; rfl
mutual
def aj.bulk :aj→Nat
 | ⟨a0,a1,a2,a3,a4⟩=>1 + (a1.length + 1) + (ah.bulk a2) + (aj.oO a3 + 1) + ((List.map (fun z:Str=>(z.length + 1)) a4).sum + 1) + 1
def aj.oO :List aj→Nat
 | []=>0
 | x :: xs=>aj.bulk x + aj.oO xs
end
theorem aj.uZ :∀ l:List aj,aj.oO l=(l.map aj.bulk).sum
 | []=>rfl
 | x :: l=>by simp only [aj.oO,List.map_cons,List.sum_cons,aj.uZ l]
theorem aj.tN (x:aj):aj.bulk x=1 + (x.name.length + 1) + (ah.bulk x.value) + (aj.oO x.args + 1) + ((List.map (fun z:Str=>(z.length + 1)) x.keys).sum + 1) + 1:=by cases x; rfl
def aS.bulk (x:aS):Nat:=(x.name.length + 1) + (aj.bulk x.expr) + 1
mutual
def au.bulk :au→Nat
 | ⟨a0,a1,a2,a3⟩=>(a0.length + 1) + (a1.length + 1) + ((List.map (fun z:aS=>(aS.bulk z)) a2).sum + 1) + (au.oO a3 + 1) + 1
def au.oO :List au→Nat
 | []=>0
 | x :: xs=>au.bulk x + au.oO xs
end
theorem au.uZ :∀ l:List au,au.oO l=(l.map au.bulk).sum
 | []=>rfl
 | x :: l=>by simp only [au.oO,List.map_cons,List.sum_cons,au.uZ l]
theorem au.tN (x:au):au.bulk x=(x.kind.length + 1) + (x.name.length + 1) + ((List.map (fun z:aS=>(aS.bulk z)) x.attrs).sum + 1) + (au.oO x.blocks + 1) + 1:=by cases x; rfl
def dY.bulk (x:dY):Nat:=(au.oO x.blocks + 1) + 1
def aA.bulk (x:aA):Nat:=(x.name.length + 1) + (ah.bulk x.value) + 1
mutual
def aD.bulk :aD→Nat
 | ⟨a0,a1⟩=>1 + (aD.oO a1 + 1) + 1
def aD.oO :List aD→Nat
 | []=>0
 | x :: xs=>aD.bulk x + aD.oO xs
end
theorem aD.uZ :∀ l:List aD,aD.oO l=(l.map aD.bulk).sum
 | []=>rfl
 | x :: l=>by simp only [aD.oO,List.map_cons,List.sum_cons,aD.uZ l]
theorem aD.tN (x:aD):aD.bulk x=1 + (aD.oO x.elem + 1) + 1:=by cases x; rfl
def aI.bulk (x:aI):Nat:=1 + 1
def aQ.bulk (x:aQ):Nat:=(x.name.length + 1) + (aD.bulk x.Gs) + 1 + (ah.bulk x.default) + 1
def bK.bulk (x:bK):Nat:=(x.name.length + 1) + ((List.map (fun z:aQ=>(aQ.bulk z)) x.params).sum + 1) + (au.bulk x.body) + 1
def aZ.bulk (x:aZ):Nat:=1 + (x.text.length + 1) + 1 + 1
def ak.bulk (x:ak):Nat:=((List.map (fun z:aZ=>(aZ.bulk z)) x.ts).sum + 1) + 1 + 1
def aB.bulk (x:aB):Nat:=1 + 1 + 1
def bf.bulk (x:bf):Nat:=(x.text.length + 1) + 1 + (aj.bulk x.expr) + 1
def aJ.bulk (x:aJ):Nat:=((List.map (fun z:bK=>(bK.bulk z)) x.templates).sum + 1) + ((List.map (fun z:aA=>(aA.bulk z)) x.env).sum + 1) + 1 + 1
def abm.bulk (x:abm):Nat:=1 + 1 + 1 + 1 + 1
def Dl.bulk (x:Dl):Nat:=1 + 1 + 1 + 1 + 1
def abl.bulk (x:abl):Nat:=(x.msg.length + 1) + 1 + 1
def vR.bulk (x:vR):Nat:=(x.msg.length + 1) + 1 + 1
def abk.bulk (x:abk):Nat:=(au.oO x.blocks + 1) + 1
def abj.bulk (x:abj):Nat:=(x.kind.length + 1) + (x.name.length + 1) + ((List.map (fun z:aS=>(aS.bulk z)) x.attrs).sum + 1) + (au.oO x.blocks + 1) + 1
def abh.bulk (x:abh):Nat:=1 + 1 + 1 + (x.gW.length + 1) + (ah.oO x.bH + 1) + ((List.map (fun z:Str=>(z.length + 1)) x.keys).sum + 1) + 1
def abg.bulk (x:abg):Nat:=1 + (x.name.length + 1) + (ah.bulk x.value) + (aj.oO x.args + 1) + ((List.map (fun z:Str=>(z.length + 1)) x.keys).sum + 1) + 1
def abf.bulk (x:abf):Nat:=(x.name.length + 1) + (aj.bulk x.expr) + 1
def abe.bulk (x:abe):Nat:=(x.name.length + 1) + (ah.bulk x.value) + 1
def abd.bulk (x:abd):Nat:=1 + (aD.oO x.elem + 1) + 1
def abb.bulk (x:abb):Nat:=(x.name.length + 1) + (aD.bulk x.Gs) + 1 + (ah.bulk x.default) + 1
def aa_.bulk (x:aa_):Nat:=(x.name.length + 1) + ((List.map (fun z:aQ=>(aQ.bulk z)) x.params).sum + 1) + (au.bulk x.body) + 1
def aa9.bulk (x:aa9):Nat:=((List.map (fun z:bK=>(bK.bulk z)) x.templates).sum + 1) + ((List.map (fun z:aA=>(aA.bulk z)) x.env).sum + 1) + 1 + 1
def aa8.bulk (x:aa8):Nat:=1 + 1
def aa7.bulk (x:aa7):Nat:=(x.text.length + 1) + 1 + (aj.bulk x.expr) + 1
def aa6.bulk (x:aa6):Nat:=1 + (x.text.length + 1) + 1 + 1
def aa5.bulk (x:aa5):Nat:=((List.map (fun z:aZ=>(aZ.bulk z)) x.ts).sum + 1) + 1 + 1
def aa4.bulk (x:aa4):Nat:=1 + 1 + 1
def aa3.bulk (x:aa3):Nat:=1 + 1 + 1
def GJ.bulk (x:GJ):Nat:=1 + 1 + 1
def aa2.bulk (x:aa2):Nat:=(x.s.length + 1) + 1
def D7.bulk (x:D7):Nat:=(x.s.length + 1) + 1
def Ap (v1:ah):Option aj:=
 some (aj.mk 1 ([]:Str) v1 [] [])
def LU (s1:Str):Option aj:=
 Ap (ah.mk 3 false 0 s1 [] [])
def P8 (s1:Str):Option aj:=
 some (aj.mk 2 s1 (ah.mk 0 false 0 ([]:Str) [] []) [] [])
def TP (e1:aj):Option aj:=
 ay (Ap (ah.mk 2 false 1 ([]:Str) [] [])) fun x1=>
 some (aj.mk 7 ([43]:Str) (ah.mk 0 false 0 ([]:Str) [] []) [e1,x1] [])
def ET (args1:List aS):Option dY:=
 ay (LU ([105,110,116]:Str)) fun x1=>
 ay (P8 ([110]:Str)) fun x2=>
 ay (TP x2) fun x3=>
 some (dY.mk [(au.mk ([116,101,109,112,108,97,116,101]:Str) ([116]:Str) [(aS.mk ([120]:Str) x3)] [(au.mk ([112,97,114,97,109]:Str) ([110]:Str) [(aS.mk ([116,121,112,101]:Str) x1)] [])]),(au.mk ([106,111,98]:Str) ([]:Str) [] [(au.mk ([117,115,101]:Str) ([116]:Str) args1 [])])])
def wS (jX:aj→Option Int) (e1:aj):Nat→Int→Int→Option Int
 | 0,_,_=>none
 | bY + 1,n1,x1=>
  if decide (x1 < (e1.args.length:Int)) then
   ay (idx e1.args x1) fun e2=>
   ay (jX e2) fun x2=>
   wS jX e1 bY (dA (n1 + x2)) (dA (x1 + 1))
  else
   some n1
def CK (jX:aj→Option Int) (e1:aj):Option Int:=
 wS jX e1 BIG 1 0
def uG :Nat→aj→Option Int
 | 0,_=>none
 | k + 1,jT=>CK (uG k) jT
def LG (jT:aj):Option Int:=uG BIG jT
def Ig (v1:ah):Option Bool:=
 some ((((((v1.kind == 0) && (!v1.iD)) && (v1.iC == 0)) && (v1.gW == ([]:Str))) && ((v1.bH.length:Int) == 0)) && ((v1.keys.length:Int) == 0))
def wC (c1:UInt8):Option Bool:=
 some ((((decide (97≤(c1.toNat:Int))) && (decide ((c1.toNat:Int)≤122))) || ((decide (65≤(c1.toNat:Int))) && (decide ((c1.toNat:Int)≤90)))) || ((c1.toNat:Int) == 95))
def yE (c1:UInt8):Option Bool:=
 some ((decide (48≤(c1.toNat:Int))) && (decide ((c1.toNat:Int)≤57)))
def yC (s1:Str):Nat→Int→Option Bool
 | 0,_=>none
 | bY + 1,i1=>
  if decide (i1 < (s1.length:Int)) then
   ay (idx s1 i1) fun x3=>
   ay (wC x3) fun x4=>
   ay (
     if !x4 then
      ay (idx s1 i1) fun x5=>
      ay (yE x5) fun x6=>
      some (!x6)
     else
      some false) fun b2=>
   if b2 then
    some false
   else
    yC s1 bY (dA (i1 + 1))
  else
   some true
def DL (s1:Str):Option Bool:=
 ay (
   if (decide ((s1.length:Int) < 1)) || (decide (64 < (s1.length:Int))) then
    some true
   else
    ay (idx s1 0) fun x1=>
    ay (wC x1) fun x2=>
    some (!x2)) fun b1=>
 if b1 then
  some false
 else
  yC s1 BIG 0
def Aj (s1:Str):Option Bool:=
 some (((s1 == ([116,114,117,101]:Str)) || (s1 == ([102,97,108,115,101]:Str))) || (s1 == ([110,117,108,108]:Str)))
def yB (s1:Str):Option Bool:=
 ay (DL s1) fun x1=>
 if x1 then
  ay (Aj s1) fun x2=>
  some (!x2)
 else
  some false
def pU (op1:Str):Option Int:=
 if op1 == ([124,124]:Str) then
  some 2
 else
  if op1 == ([38,38]:Str) then
   some 3
  else
   if op1 == ([61,61]:Str) then
    some 4
   else
    if op1 == ([33,61]:Str) then
     some 4
    else
     if op1 == ([60]:Str) then
      some 4
     else
      if op1 == ([60,61]:Str) then
       some 4
      else
       if op1 == ([62]:Str) then
        some 4
       else
        if op1 == ([62,61]:Str) then
         some 4
        else
         if op1 == ([43]:Str) then
          some 5
         else
          if op1 == ([45]:Str) then
           some 5
          else
           if op1 == ([42]:Str) then
            some 6
           else
            if op1 == ([47]:Str) then
             some 6
            else
             if op1 == ([37]:Str) then
              some 6
             else
              some 0
def FD (e1:aj):Option Bool:=
 if e1.kind == 2 then
  yB e1.name
 else
  if e1.kind == 3 then
   yB e1.name
  else
   if e1.kind == 5 then
    yB e1.name
   else
    if e1.kind == 6 then
     some ((e1.name == ([33]:Str)) || (e1.name == ([45]:Str)))
    else
     if e1.kind == 7 then
      ay (pU e1.name) fun x4=>
      some (decide (0 < x4))
     else
      some (e1.name == ([]:Str))
def FI (e1:aj):Option Bool:=
 if e1.kind == 1 then
  some ((e1.args.length:Int) == 0)
 else
  if e1.kind == 2 then
   some ((e1.args.length:Int) == 0)
  else
   if e1.kind == 3 then
    some ((e1.args.length:Int) == 1)
   else
    if e1.kind == 6 then
     some ((e1.args.length:Int) == 1)
    else
     if e1.kind == 4 then
      some ((e1.args.length:Int) == 2)
     else
      if e1.kind == 7 then
       some ((e1.args.length:Int) == 2)
      else
       if e1.kind == 8 then
        some ((e1.args.length:Int) == 3)
       else
        some true
def jl (s1:List Str) (f1:Str→Option Bool):Nat→Int→Option Int
 | 0,_=>none
 | bY + 1,i1=>
  if decide (i1 < (s1.length:Int)) then
   ay (idx s1 i1) fun e1=>
   ay (f1 e1) fun x1=>
   if x1 then
    some i1
   else
    jl s1 f1 bY (dA (i1 + 1))
  else
   some (-1)
def lS (s1:List Str) (f1:Str→Option Bool):Option Int:=
 jl s1 f1 BIG 0
def kK (s1:List Str) (f1:Str→Option Bool):Option Bool:=
 ay (lS s1 f1) fun x1=>
 some (decide (0≤x1))
def yD (zo:Str):Option Bool:=
 some ((decide ((zo.length:Int) < 1)) || (decide (64 < (zo.length:Int))))
def FE (e1:aj):Option Bool:=
 if e1.kind != 10 then
  some ((e1.keys.length:Int) == 0)
 else
  if (e1.keys.length:Int) == (e1.args.length:Int) then
   ay (kK e1.keys yD) fun x1=>
   some (!x1)
  else
   some false
def vZ {β:Type} (go:β→ah→Int→Option (Bool × β)) (v1:ah) (bU:Int):Nat→β→Int→Option (Bool × β)
 | 0,_,_=>none
 | bY + 1,s1,i1=>
  if decide (i1 < (v1.bH.length:Int)) then
   ay (idx v1.bH i1) fun x1=>
   fJ (go s1 x1 (dA (bU + 1))) fun b1 s2=>
   if !b1 then
    some (false,s2)
   else
    vZ go v1 bU bY s2 (dA (i1 + 1))
  else
   some (true,s1)
def BA {β:Type} (go:β→ah→Int→Option (Bool × β)) (y:β→Int→ah→Option (Bool × β)) (s1:β) (v1:ah) (bU:Int):Option (Bool × β):=
 fJ (y s1 bU v1) fun b1 s2=>
 if !b1 then
  some (false,s2)
 else
  vZ go v1 bU BIG s2 0
def pX {β:Type} (y:β→Int→ah→Option (Bool × β)):Nat→β→ah→Int→Option (Bool × β)
 | 0,_,_,_=>none
 | k + 1,s1,v1,bU=>BA (pX y k) y s1 v1 bU
def Fj {β:Type} (y:β→Int→ah→Option (Bool × β)) (s1:β) (v1:ah) (bU:Int):Option (Bool × β):=pX y BIG s1 v1 bU
def BF (v1:ah):Option Bool:=
 some ((((((v1.kind == 1) || (!v1.iD)) && ((v1.kind == 2) || (v1.iC == 0))) && ((v1.kind == 3) || (v1.gW == ([]:Str)))) && (((v1.kind == 4) || (v1.kind == 5)) || ((v1.bH.length:Int) == 0))) && ((v1.kind == 5) || ((v1.keys.length:Int) == 0)))
def Aq (c1:UInt8):Option Bool:=
 some ((decide (48≤(c1.toNat:Int))) && (decide ((c1.toNat:Int)≤57)))
def yM (s1:Str):Nat→Int→Option Int
 | 0,_=>none
 | bY + 1,n1=>
  ay (
    if decide (n1 < (s1.length:Int)) then
     ay (idx s1 n1) fun x1=>
     Aq x1
    else
     some false) fun b1=>
  if b1 then
   yM s1 bY (dA (n1 + 1))
  else
   some n1
def Ck (s1:Str):Option Int:=
 yM s1 BIG 0
def jh (c1:UInt8):Nat→Str→Option Str
 | 0,_=>none
 | bY + 1,s2=>
  ay (
    if decide (0 < (s2.length:Int)) then
     ay (idx s2 0) fun x1=>
     some ((x1.toNat:Int) == (c1.toNat:Int))
    else
     some false) fun b1=>
  if b1 then
   ay (sl s2 1 (s2.length:Int)) fun s3=>
   jh c1 bY s3
  else
   some s2
def strings_trimLeftByte (s1:Str) (c1:UInt8):Option Str:=
 jh c1 BIG s1
def oz (s1:Str) (DW:Str):Option Str:=
 if (s1 == ([]:Str)) || (DW == ([]:Str)) then
  some s1
 else
  ay (
    if (DW.length:Int) == 1 then
     ay (idx DW 0) fun x1=>
     some (decide ((x1.toNat:Int) < 128))
    else
     some false) fun b1=>
  if b1 then
   ay (idx DW 0) fun x2=>
   strings_trimLeftByte s1 x2
  else
   none
def cmp_isNaN_int (x1:Int):Option Bool:=
 some (x1 != x1)
def cmp_Compare_int (x1:Int) (y1:Int):Option Int:=
 ay (cmp_isNaN_int x1) fun Np=>
 ay (cmp_isNaN_int y1) fun G8=>
 if Np then
  if G8 then
   some 0
  else
   some (-1)
 else
  if G8 then
   some 1
  else
   if decide (x1 < y1) then
    some (-1)
   else
    if decide (y1 < x1) then
     some 1
    else
     some 0
def cmp_isNaN_string (x1:Str):Option Bool:=
 some (!(x1 == x1))
def mJ (x1:Str) (y1:Str):Option Int:=
 ay (cmp_isNaN_string x1) fun Np=>
 ay (cmp_isNaN_string y1) fun G8=>
 if Np then
  if G8 then
   some 0
  else
   some (-1)
 else
  if G8 then
   some 1
  else
   if Go.Op.bytesLess x1 y1 then
    some (-1)
   else
    if !(Go.Op.bytesLess x1 y1 || x1 == y1) then
     some 1
    else
     some 0
def wJ (Gn:List Int):Nat→Int→Option Int
 | 0,_=>none
 | bY + 1,x1=>
  if decide (x1 < (Gn.length:Int)) then
   ay (idx Gn x1) fun Ym=>
   if Ym != 0 then
    some Ym
   else
    wJ Gn bY (dA (x1 + 1))
  else
   some 0
def Da (Gn:List Int):Option Int:=
 wJ Gn BIG 0
def wG (a1:Str) (b1:Str):Option Int:=
 ay (oz a1 ([48]:Str)) fun x1=>
 ay (oz b1 ([48]:Str)) fun y1=>
 ay (cmp_Compare_int (x1.length:Int) (y1.length:Int)) fun x2=>
 ay (mJ x1 y1) fun x3=>
 ay (cmp_Compare_int (a1.length:Int) (b1.length:Int)) fun x4=>
 Da ([x2,x3,x4]:List Int)
def uU (x1:UInt8):Option Bool:=
 some ((x1.toNat:Int) != (x1.toNat:Int))
def qW (x1:UInt8) (y1:UInt8):Option Int:=
 ay (uU x1) fun Np=>
 ay (uU y1) fun G8=>
 if Np then
  if G8 then
   some 0
  else
   some (-1)
 else
  if G8 then
   some 1
  else
   if decide ((x1.toNat:Int) < (y1.toNat:Int)) then
    some (-1)
   else
    if decide ((y1.toNat:Int) < (x1.toNat:Int)) then
     some 1
    else
     some 0
def j_ :Nat→Str→Str→Option Int
 | 0,_,_=>none
 | bY + 1,a2,b2=>
  if (!(a2 == ([]:Str))) && (!(b2 == ([]:Str))) then
   ay (Ck a2) fun n1=>
   ay (Ck b2) fun m1=>
   if (decide (0 < n1)) && (decide (0 < m1)) then
    ay (sl a2 0 n1) fun x1=>
    ay (sl b2 0 m1) fun x2=>
    ay (wG x1 x2) fun c1=>
    if c1 != 0 then
     some c1
    else
     ay (sl a2 n1 (a2.length:Int)) fun a3=>
     ay (sl b2 m1 (b2.length:Int)) fun b3=>
     j_ bY a3 b3
   else
    ay (idx a2 0) fun x3=>
    ay (idx b2 0) fun x4=>
    if (x3.toNat:Int) != (x4.toNat:Int) then
     ay (idx a2 0) fun x5=>
     ay (idx b2 0) fun x6=>
     qW x5 x6
    else
     ay (sl a2 1 (a2.length:Int)) fun a4=>
     ay (sl b2 1 (b2.length:Int)) fun b4=>
     j_ bY a4 b4
  else
   cmp_Compare_int (a2.length:Int) (b2.length:Int)
def lM (a1:Str) (b1:Str):Option Int:=
 j_ BIG a1 b1
def qI (v1:ah):Nat→Int→Option Bool
 | 0,_=>none
 | bY + 1,i1=>
  if decide (i1 < (v1.keys.length:Int)) then
   ay (idx v1.keys i1) fun zo=>
   ay (
     if (decide ((zo.length:Int) < 1)) || (decide (64 < (zo.length:Int))) then
      some true
     else
      if decide (0 < i1) then
       ay (idx v1.keys (dA (i1 - 1))) fun e1=>
       ay (lM e1 zo) fun x1=>
       some (decide (0≤x1))
      else
       some false) fun b1=>
   if b1 then
    some false
   else
    qI v1 bY (dA (i1 + 1))
  else
   some true
def Ad (v1:ah):Option Bool:=
 if (v1.keys.length:Int) != (v1.bH.length:Int) then
  some false
 else
  qI v1 BIG 0
def Cr (v1:ah) (bU:Int):Option Int:=
 if decide (16 < bU) then
  some 13
 else
  ay (
    if (decide (v1.kind < 0)) || (decide (5 < v1.kind)) then
     some true
    else
     ay (BF v1) fun x1=>
     some (!x1)) fun b1=>
  if b1 then
   some 1
  else
   if (decide (v1.iC < (-9007199254740992))) || (decide (9007199254740992 < v1.iC)) then
    some 2
   else
    if ((decide (4096 < (v1.gW.length:Int))) || (decide (1024 < (v1.bH.length:Int)))) || (decide (1024 < (v1.keys.length:Int))) then
     some 3
    else
     ay (
       if v1.kind == 5 then
        ay (Ad v1) fun x2=>
        some (!x2)
       else
        some false) fun b2=>
     if b2 then
      some 1
     else
      if (((v1.kind == 4) || (v1.kind == 5)) && ((v1.bH.length:Int) == 0)) && (bU == 16) then
       some 13
      else
       some 0
def mO (s1:Option Int) (bU:Int) (x1:ah):Option (Bool × Option Int):=
 match s1 with
 | some _=>none
 | none=>
  ay (Cr x1 bU) fun e1=>
  if !(e1 == 0) then
   some (false,some e1)
  else
   some (true,none)
def l5 (v1:ah):Option Int:=
 fJ (Fj mO none v1 1) fun _ s1=>
 some (s1.getD 0)
def rQ (l1:List Str):Nat→Int→List (Str × Int)→Option Bool
 | 0,_,_=>none
 | bY + 1,x1,y1=>
  if decide (x1 < (l1.length:Int)) then
   ay (idx l1 x1) fun s1=>
   if decide (1 < (Ej (Bf y1 s1 (dA ((Ej y1 s1) + 1))) s1)) then
    some true
   else
    rQ l1 bY (dA (x1 + 1)) (Bf y1 s1 (dA ((Ej y1 s1) + 1)))
  else
   some false
def Bc (l1:List Str):Option Bool:=
 rQ l1 BIG 0 []
def Ij (e1:aj) (bU:Int):Option Int:=
 if decide (16 < bU) then
  some 13
 else
  ay (
    if (decide (e1.kind < 1)) || (decide (10 < e1.kind)) then
     some true
    else
     if e1.kind != 1 then
      ay (Ig e1.value) fun x1=>
      some (!x1)
     else
      some false) fun b1=>
  ay (
    if b1 then
     some true
    else
     ay (FD e1) fun x2=>
     some (!x2)) fun b3=>
  ay (
    if b3 then
     some true
    else
     ay (FI e1) fun x3=>
     some (!x3)) fun b4=>
  ay (
    if b4 then
     some true
    else
     ay (FE e1) fun x4=>
     some (!x4)) fun b5=>
  if b5 then
   some 1
  else
   ay (
     if e1.kind == 1 then
      ay (l5 e1.value) fun x5=>
      some (x5 != 0)
     else
      some false) fun b6=>
   if b6 then
    l5 e1.value
   else
    if decide (1024 < (e1.args.length:Int)) then
     some 3
    else
     ay (Bc e1.keys) fun x7=>
     if x7 then
      some 7
     else
      some 0
def wR (jW:aj→Int→Option Int) (e1:aj) (bU:Int):Nat→Int→Option Int
 | 0,_=>none
 | bY + 1,x1=>
  if decide (x1 < (e1.args.length:Int)) then
   ay (idx e1.args x1) fun e2=>
   ay (jW e2 (dA (bU + 1))) fun f2=>
   if f2 != 0 then
    some f2
   else
    wR jW e1 bU bY (dA (x1 + 1))
  else
   some 0
def CG (jW:aj→Int→Option Int) (e1:aj) (bU:Int):Option Int:=
 ay (Ij e1 bU) fun f1=>
 if f1 != 0 then
  some f1
 else
  wR jW e1 bU BIG 0
def uy :Nat→aj→Int→Option Int
 | 0,_,_=>none
 | k + 1,jT,eZ=>CG (uy k) jT eZ
def LD (jT:aj) (eZ:Int):Option Int:=uy BIG jT eZ
def qd (e1:aj):Option Int:=
 ay (LG e1) fun x1=>
 if decide (4096 < x1) then
  some 15
 else
  LD e1 1
def BS (s1:Str):Option Bool:=
 ay (qd (aj.mk 2 s1 (ah.mk 0 false 0 ([]:Str) [] []) [] [])) fun x1=>
 some (x1 == 0)
def qm (b1:au):Nat→Int→List (Str × Int)→Option Int
 | 0,_,_=>none
 | bY + 1,x1,y1=>
  if decide (x1 < (b1.attrs.length:Int)) then
   ay (idx b1.attrs x1) fun e1=>
   ay (BS e1.name) fun x2=>
   if !x2 then
    some 1
   else
    ay (qd e1.expr) fun e2=>
    if e2 != 0 then
     some e2
    else
     if decide (1 < (Ej (Bf y1 e1.name (dA ((Ej y1 e1.name) + 1))) e1.name)) then
      some 7
     else
      qm b1 bY (dA (x1 + 1)) (Bf y1 e1.name (dA ((Ej y1 e1.name) + 1)))
  else
   some 0
def yZ (b1:au):Option Int:=
 qm b1 BIG 0 []
def wW (jZ:au→Int→Option Int) (b1:au) (bU:Int):Nat→Int→Option Int
 | 0,_=>none
 | bY + 1,x2=>
  if decide (x2 < (b1.blocks.length:Int)) then
   ay (idx b1.blocks x2) fun e2=>
   ay (jZ e2 (dA (bU + 1))) fun e3=>
   if e3 != 0 then
    some e3
   else
    wW jZ b1 bU bY (dA (x2 + 1))
  else
   some 0
def C_ (jZ:au→Int→Option Int) (b1:au) (bU:Int):Option Int:=
 if decide (16 < bU) then
  some 13
 else
  ay (BS b1.kind) fun x1=>
  if (!x1) || (decide (64 < (b1.name.length:Int))) then
   some 1
  else
   if (decide (1024 < (b1.attrs.length:Int))) || (decide (1024 < (b1.blocks.length:Int))) then
    some 3
   else
    ay (yZ b1) fun e1=>
    if e1 != 0 then
     some e1
    else
     wW jZ b1 bU BIG 0
def uS :Nat→au→Int→Option Int
 | 0,_,_=>none
 | k + 1,l6,eZ=>C_ (uS k) l6 eZ
def Md (l6:au) (eZ:Int):Option Int:=uS BIG l6 eZ
def wX (f1:dY):Nat→Int→Option Int
 | 0,_=>none
 | bY + 1,x1=>
  if decide (x1 < (f1.blocks.length:Int)) then
   ay (idx f1.blocks x1) fun e1=>
   ay (Md e1 1) fun e2=>
   if e2 != 0 then
    some e2
   else
    wX f1 bY (dA (x1 + 1))
  else
   some 0
def za (f1:dY):Option Int:=
 if decide (1024 < (f1.blocks.length:Int)) then
  some 3
 else
  wX f1 BIG 0
def d9 (s1:List aS):Option (List aS):=
 app [] s1
def fM (s1:List Str):Option (List Str):=
 app [] s1
def eG (s1:List ah):Option (List ah):=
 app [] s1
def kH (go:ah→Option ah) (n1:Int):Nat→List ah→Int→Option (List ah)
 | 0,_,_=>none
 | bY + 1,l1,i1=>
  if decide (i1 < n1) then
   ay (idx l1 i1) fun e1=>
   ay (go e1) fun x1=>
   kH go n1 bY (l1.set i1.toNat x1) (dA (i1 + 1))
  else
   some l1
def p8 (go:ah→Option ah) (v1:ah):Option ah:=
 ay (fM v1.keys) fun k1=>
 ay (eG v1.bH) fun l1=>
 ay (kH go (l1.length:Int) BIG l1 0) fun l2=>
 some (ah.mk v1.kind v1.iD v1.iC v1.gW l2 k1)
def lq :Nat→ah→Option ah
 | 0,_=>none
 | k + 1,v1=>p8 (lq k) v1
def mD (v1:ah):Option ah:=lq BIG v1
def fH (s1:List aj):Option (List aj):=
 app [] s1
def qC (go:aj→(aj→Option (aj × Bool × Int))→Option (aj × Int)) (lW:aj→Option (aj × Bool × Int)) (n1:Int):Nat→List aj→Int→Option (List aj × Int)
 | 0,_,_=>none
 | bY + 1,l1,i1=>
  if decide (i1 < n1) then
   ay (idx l1 i1) fun e1=>
   fJ (go e1 lW) fun x1 Dt=>
   if Dt != 0 then
    some ([],Dt)
   else
    qC go lW n1 bY (l1.set i1.toNat x1) (dA (i1 + 1))
  else
   some (l1,0)
def w_ (go:aj→(aj→Option (aj × Bool × Int))→Option (aj × Int)) (e1:aj) (lW:aj→Option (aj × Bool × Int)):Option (aj × Int):=
 wL (lW e1) fun x1 known1 Dt=>
 if known1 || (Dt != 0) then
  some (x1,Dt)
 else
  ay (mD e1.value) fun x2=>
  ay (fM e1.keys) fun k2=>
  ay (fH e1.args) fun l1=>
  fJ (qC go lW (l1.length:Int) BIG l1 0) fun l2 TY=>
  if TY != 0 then
   some ((aj.mk 0 ([]:Str) (ah.mk 0 false 0 ([]:Str) [] []) [] []),TY)
  else
   some ((aj.mk e1.kind e1.name x2 l2 k2),0)
def rJ :Nat→aj→(aj→Option (aj × Bool × Int))→Option (aj × Int)
 | 0,_,_=>none
 | k + 1,e1,lW=>w_ (rJ k) e1 lW
def vg (e1:aj) (lW:aj→Option (aj × Bool × Int)):Option (aj × Int):=rJ BIG e1 lW
def qD (a1:aj):Option (aj × Bool × Int):=
 some ((aj.mk 0 ([]:Str) (ah.mk 0 false 0 ([]:Str) [] []) [] []),false,0)
def yc (e1:aj):Option aj:=
 fJ (vg e1 qD) fun x1 x2=>
 some x1
def oZ (n1:Int):Nat→List aS→Int→Option (List aS)
 | 0,_,_=>none
 | bY + 1,l1,i1=>
  if decide (i1 < n1) then
   ay (idx l1 i1) fun e1=>
   ay (yc e1.expr) fun x1=>
   oZ n1 bY (l1.set i1.toNat (aS.mk e1.name x1)) (dA (i1 + 1))
  else
   some l1
def mE (l0:List aS):Option (List aS):=
 ay (d9 l0) fun l1=>oZ (l1.length:Int) BIG l1 0
def fq (s1:List au):Option (List au):=
 app [] s1
def oW (go:au→Option au) (n1:Int):Nat→List au→Int→Option (List au)
 | 0,_,_=>none
 | bY + 1,l1,i1=>
  if decide (i1 < n1) then
   ay (idx l1 i1) fun e1=>
   ay (go e1) fun x1=>
   oW go n1 bY (l1.set i1.toNat x1) (dA (i1 + 1))
  else
   some l1
def um (go:au→Option au) (v1:au):Option au:=
 ay (mE v1.attrs) fun k1=>
 ay (fq v1.blocks) fun l1=>
 ay (oW go (l1.length:Int) BIG l1 0) fun l2=>
 some (au.mk v1.kind v1.name k1 l2)
def p9 :Nat→au→Option au
 | 0,_=>none
 | k + 1,v1=>um (p9 k) v1
def xk (v1:au):Option au:=p9 BIG v1
def qE (l1:List UInt8) (Vn:Int→UInt8→Option Bool):Nat→Int→Option Bool
 | 0,_=>none
 | bY + 1,i1=>
  if decide (i1 < (l1.length:Int)) then
   ay (idx l1 i1) fun e1=>
   ay (Vn i1 e1) fun x1=>
   if !x1 then
    some false
   else
    qE l1 Vn bY (dA (i1 + 1))
  else
   some true
def zJ (l1:List UInt8) (Vn:Int→UInt8→Option Bool):Option Bool:=
 qE l1 Vn BIG 0
def BP (i1:Int) (c1:UInt8):Option Bool:=
 ay (
   if (decide (97≤(c1.toNat:Int))) && (decide ((c1.toNat:Int)≤122)) then
    some true
   else
    Aq c1) fun b1=>
 some (b1 || ((decide (0 < i1)) && ((((c1.toNat:Int) == 95) || ((c1.toNat:Int) == 45)) || ((c1.toNat:Int) == 46))))
def KG (s1:Str):Option Bool:=
 if (decide (0 < (s1.length:Int))) && (decide ((s1.length:Int)≤64)) then
  ay (app ([]:Str) s1) fun x1=>
  zJ x1 BP
 else
  some false
def DV (mZ:List aA):Nat→Int→List (Str × Int)→Option Int
 | 0,_,_=>none
 | bY + 1,x1,y1=>
  if decide (x1 < (mZ.length:Int)) then
   ay (idx mZ x1) fun e1=>
   ay (qd (aj.mk 2 e1.name (ah.mk 0 false 0 ([]:Str) [] []) [] [])) fun x2=>
   if x2 != 0 then
    some 1
   else
    ay (l5 e1.value) fun e2=>
    if e2 != 0 then
     some e2
    else
     if decide (1 < (Ej (Bf y1 e1.name (dA ((Ej y1 e1.name) + 1))) e1.name)) then
      some 7
     else
      DV mZ bY (dA (x1 + 1)) (Bf y1 e1.name (dA ((Ej y1 e1.name) + 1)))
  else
   some 0
def EY (mZ:List aA):Option Int:=
 if decide (1024 < (mZ.length:Int)) then
  some 3
 else
  DV mZ BIG 0 []
def Cu (s1:Str):Option Bool:=
 ay (EY [(aA.mk s1 (ah.mk 0 false 0 ([]:Str) [] []))]) fun x1=>
 some (x1 == 0)
def wV (jY:ah→Option ah) (v1:ah):Nat→Int→ah→Option ah
 | 0,_,_=>none
 | bY + 1,x1,bg=>
  if decide (x1 < (v1.bH.length:Int)) then
   ay (idx v1.bH x1) fun e1=>
   ay (jY e1) fun x2=>
   ay (app bg.bH [x2]) fun x3=>
   wV jY v1 bY (dA (x1 + 1)) (ah.mk bg.kind bg.iD bg.iC bg.gW x3 bg.keys)
  else
   ay (app [] v1.keys) fun x4=>
   some (ah.mk bg.kind bg.iD bg.iC bg.gW bg.bH x4)
def C9 (jY:ah→Option ah) (v1:ah):Option ah:=
 wV jY v1 BIG 0 (ah.mk v1.kind v1.iD v1.iC v1.gW [] v1.keys)
def uR :Nat→ah→Option ah
 | 0,_=>none
 | k + 1,pO=>C9 (uR k) pO
def Mc (pO:ah):Option ah:=uR BIG pO
def yY (kP:aj→Option aj) (e1:aj):Nat→Int→aj→Option aj
 | 0,_,_=>none
 | bY + 1,x2,bg=>
  if decide (x2 < (e1.args.length:Int)) then
   ay (idx e1.args x2) fun e2=>
   ay (kP e2) fun x3=>
   ay (app bg.args [x3]) fun x4=>
   yY kP e1 bY (dA (x2 + 1)) (aj.mk bg.kind bg.name bg.value x4 bg.keys)
  else
   ay (app [] e1.keys) fun x5=>
   some (aj.mk bg.kind bg.name bg.value bg.args x5)
def Et (kP:aj→Option aj) (e1:aj):Option aj:=
 ay (Mc e1.value) fun x1=>
 yY kP e1 BIG 0 (aj.mk e1.kind e1.name x1 [] e1.keys)
def wI :Nat→aj→Option aj
 | 0,_=>none
 | k + 1,jT=>Et (wI k) jT
def NI (jT:aj):Option aj:=wI BIG jT
def ze (b1:au) (name1:Str):Nat→Int→Option (aj × Bool)
 | 0,_=>none
 | bY + 1,x1=>
  if decide (x1 < (b1.attrs.length:Int)) then
   ay (idx b1.attrs x1) fun e1=>
   if e1.name == name1 then
    ay (NI e1.expr) fun x2=>
    some (x2,true)
   else
    ze b1 name1 bY (dA (x1 + 1))
  else
   some ((aj.mk 0 ([]:Str) (ah.mk 0 false 0 ([]:Str) [] []) [] []),false)
def Ar (b1:au) (name1:Str):Option (aj × Bool):=
 ze b1 name1 BIG 0
def rC (iZ:Int):Option Str:=
 if (decide (iZ < 0)) || (decide (8≤iZ)) then
  some ([]:Str)
 else
  idx ([([97,110,121]:Str),([110,117,108,108]:Str),([98,111,111,108]:Str),([105,110,116]:Str),([115,116,114,105,110,103]:Str),([108,105,115,116]:Str),([109,97,112]:Str),([110,101,118,101,114]:Str)]:List Str) iZ
def nA (s1:Str) (mg:Str):Option Bool:=
 if decide ((mg.length:Int)≤(s1.length:Int)) then
  ay (sl s1 0 (mg.length:Int)) fun x1=>
  some (x1 == mg)
 else
  some false
def qP (s1:Str) (mg:Str):Option (Str × Bool):=
 ay (nA s1 mg) fun x1=>
 if !x1 then
  some (s1,false)
 else
  ay (sl s1 (mg.length:Int) (s1.length:Int)) fun Xo=>
  some (Xo,true)
def strings_CutPrefix (s1:Str) (mg:Str):Option (Str × Bool):=
 qP s1 mg
def ny (s1:Str) (l9:Str):Option Bool:=
 if decide ((l9.length:Int)≤(s1.length:Int)) then
  ay (sl s1 (dA ((s1.length:Int) - (l9.length:Int))) (s1.length:Int)) fun x1=>
  some (x1 == l9)
 else
  some false
def qO (s1:Str) (l9:Str):Option (Str × Bool):=
 ay (ny s1 l9) fun x1=>
 if !x1 then
  some (s1,false)
 else
  ay (sl s1 0 (dA ((s1.length:Int) - (l9.length:Int)))) fun Uq=>
  some (Uq,true)
def strings_CutSuffix (s1:Str) (l9:Str):Option (Str × Bool):=
 qO s1 l9
def qK (s1:Str):Nat→Int→Option (Int × Str)
 | 0,_=>none
 | bY + 1,x1=>
  if decide (x1 < (([5,6]:List Int).length:Int)) then
   ay (idx ([5,6]:List Int) x1) fun iZ=>
   ay (rC iZ) fun x2=>
   ay (app x2 ([40]:Str)) fun x3=>
   fJ (strings_CutPrefix s1 x3) fun jq ok1=>
   if !ok1 then
    qK s1 bY (dA (x1 + 1))
   else
    fJ (strings_CutSuffix jq ([41]:Str)) fun pF ok2=>
    if ok2 then
     some (iZ,pF)
    else
     qK s1 bY (dA (x1 + 1))
  else
   some (8,([]:Str))
def Ec (s1:Str):Option (Int × Str):=
 qK s1 BIG 0
def gN (iZ:Int):Option Bool:=
 some ((iZ == 5) || (iZ == 6))
def gM (iZ:Int):Option aD:=
 some (aD.mk iZ [])
def m_ (iZ:Int) (pF:aD):Option aD:=
 some (aD.mk iZ [pF])
def wN (mI:List Int):Nat→Int→aD→Option (aD × Int)
 | 0,_,_=>none
 | kk3 + 1,i1,t1=>
  if decide (0≤i1) then
   ay (idx mI i1) fun e1=>
   ay (m_ e1 t1) fun x4=>
   wN mI kk3 (dA (i1 - 1)) x4
  else
   some (t1,0)
def wO (s2:Str) (mI:List Int):Nat→Int→Option (aD × Int)
 | 0,_=>none
 | ED + 1,Gv=>
  if decide (Gv < 8) then
   ay (gN Gv) fun x1=>
   ay (
     if x1 then
      some true
     else
      ay (rC Gv) fun x2=>
      some (!(x2 == s2))) fun b1=>
   if b1 then
    wO s2 mI ED (dA (Gv + 1))
   else
    if decide (16≤(mI.length:Int)) then
     some ((aD.mk 0 []),13)
    else
     ay (gM Gv) fun x3=>
     wN mI BIG (dA ((mI.length:Int) - 1)) x3
  else
   some ((aD.mk 0 []),5)
def wP :Nat→Str→List Int→Option (aD × Int)
 | 0,_,_=>none
 | bY + 1,s2,mI=>
  fJ (Ec s2) fun iZ jq=>
  if iZ == 8 then
   wO s2 mI BIG 0
  else
   ay (app mI ([iZ]:List Int)) fun WG=>
   wP bY jq WG
def Fv (s1:Str):Option (aD × Int):=
 if decide (4096 < (s1.length:Int)) then
  some ((aD.mk 0 []),3)
 else
  wP BIG s1 []
def Iy (e1:aj) (mZ:List aA):Option (List aA × Int):=
 ay (EY mZ) fun f1=>
 if f1 != 0 then
  some ([],f1)
 else
  ay (qd e1) fun f2=>
  if f2 != 0 then
   some ([],f2)
  else
   some (mZ,0)
def JA (e1:Int):Option (eX aI Unit):=
 some (.bad (aI.mk e1))
def rU (s1:List aA) (name1:Str):Nat→Int→Option (eX aI ah)
 | 0,_=>none
 | bY + 1,x1=>
  if decide (x1 < (s1.length:Int)) then
   ay (idx s1 x1) fun e1=>
   if e1.name == name1 then
    some (.ok e1.value)
   else
    rU s1 name1 bY (dA (x1 + 1))
  else
   f_ (JA 10) (fun e2=>some (.bad e2)) fun _=>
   some (.ok (ah.mk 0 false 0 ([]:Str) [] []))
def Bj (s1:List aA) (name1:Str):Option (eX aI ah):=
 rU s1 name1 BIG 0
def vD (s1:Str):Option ah:=
 some (ah.mk 3 false 0 s1 [] [])
def nC (v1:ah) (iZ:Int):Option Bool:=
 some (v1.kind == iZ)
def gB (ok1:Bool) (e1:Int):Option (eX aI Unit):=
 if !ok1 then
  f_ (JA e1) (fun e2=>some (.bad e2)) fun _=>
  some (.ok ())
 else
  some (.ok ())
def jO (s1:List Str) (v1:Str):Nat→Int→Option Int
 | 0,_=>none
 | bY + 1,i1=>
  if decide (i1 < (s1.length:Int)) then
   ay (idx s1 i1) fun e1=>
   if v1 == e1 then
    some i1
   else
    jO s1 v1 bY (dA (i1 + 1))
  else
   some (-1)
def nK (s1:List Str) (v1:Str):Option Int:=
 jO s1 v1 BIG 0
def xY (kM:ah→Option ah) (v1:ah):Nat→Int→ah→Option ah
 | 0,_,_=>none
 | bY + 1,x2,bg=>
  if decide (x2 < (v1.bH.length:Int)) then
   ay (idx v1.bH x2) fun e1=>
   ay (kM e1) fun x3=>
   ay (app bg.bH [x3]) fun x4=>
   xY kM v1 bY (dA (x2 + 1)) (ah.mk bg.kind bg.iD bg.iC bg.gW x4 bg.keys)
  else
   some bg
def D9 (kM:ah→Option ah) (v1:ah):Option ah:=
 ay (fM v1.keys) fun x1=>
 xY kM v1 BIG 0 (ah.mk v1.kind v1.iD v1.iC v1.gW [] x1)
def wh :Nat→ah→Option ah
 | 0,_=>none
 | k + 1,pO=>D9 (wh k) pO
def Hw (pO:ah):Option ah:=wh BIG pO
def Jr (v1:ah) (key1:Str):Option (ah × Bool):=
 ay (nK v1.keys key1) fun i1=>
 if ((v1.kind != 5) || (decide (i1 < 0))) || (decide ((v1.bH.length:Int)≤i1)) then
  some ((ah.mk 0 false 0 ([]:Str) [] []),false)
 else
  ay (idx v1.bH i1) fun e1=>
  ay (Hw e1) fun x1=>
  some (x1,true)
def F4 (m1:ah) (key1:ah):Option (eX aI ah):=
 ay (nC m1 5) fun x1=>
 ay (
   if x1 then
    nC key1 3
   else
    some false) fun b1=>
 f_ (gB b1 9) (fun e1=>some (.bad e1)) fun _=>
 fJ (Jr m1 key1.gW) fun x3 ok1=>
 f_ (gB ok1 8) (fun e2=>some (.bad e2)) fun _=>
 some (.ok x3)
def F5 (a1:ah) (i1:ah):Option (eX aI ah):=
 ay (nC a1 4) fun x1=>
 ay (
   if x1 then
    nC i1 2
   else
    some false) fun b1=>
 if b1 then
  f_ (gB ((decide (0≤i1.iC)) && (decide (i1.iC < (a1.bH.length:Int)))) 8) (fun e1=>some (.bad e1)) fun _=>
  ay (idx a1.bH i1.iC) fun e2=>
  some (.ok e2)
 else
  f_ (F4 a1 i1) (fun e3=>some (.bad e3)) fun x3=>
  some (.ok x3)
def KN (name1:Str):Option Int:=
 if name1 == ([108,101,110]:Str) then
  some 1
 else
  if name1 == ([108,111,119,101,114]:Str) then
   some 1
  else
   if name1 == ([117,112,112,101,114]:Str) then
    some 1
   else
    if name1 == ([115,116,114,105,110,103]:Str) then
     some 1
    else
     if name1 == ([105,110,116]:Str) then
      some 1
     else
      if name1 == ([107,101,121,115]:Str) then
       some 1
      else
       if name1 == ([99,111,110,116,97,105,110,115]:Str) then
        some 2
       else
        if name1 == ([106,111,105,110]:Str) then
         some 2
        else
         if name1 == ([115,112,108,105,116]:Str) then
          some 2
         else
          if name1 == ([115,116,97,114,116,115,119,105,116,104]:Str) then
           some 2
          else
           if name1 == ([101,110,100,115,119,105,116,104]:Str) then
            some 2
           else
            if name1 == ([100,101,102,97,117,108,116]:Str) then
             some 2
            else
             some 0
def rV (n1:Int):Option ah:=
 some (ah.mk 2 false n1 ([]:Str) [] [])
def F7 (l1:List ah):Option ah:=
 some (ah.mk 4 false 0 ([]:Str) l1 [])
def BQ (l1:List Str):Nat→Int→ah→Option ah
 | 0,_,_=>none
 | bY + 1,x1,bg=>
  if decide (x1 < (l1.length:Int)) then
   ay (idx l1 x1) fun s1=>
   ay (vD s1) fun x2=>
   ay (app bg.bH [x2]) fun x3=>
   BQ l1 bY (dA (x1 + 1)) (ah.mk bg.kind bg.iD bg.iC bg.gW x3 bg.keys)
  else
   some bg
def Jz (l1:List Str):Option ah:=
 BQ l1 BIG 0 (ah.mk 4 false 0 ([]:Str) [] [])
def uM (b1:Bool):Option Str:=
 if b1 then
  some ([116,114,117,101]:Str)
 else
  some ([102,97,108,115,101]:Str)
def strconv_FormatBool (b1:Bool):Option Str:=
 uM b1
def strconv_Itoa (n1:Int):Option Str:=
 if -9223372036854775808≤n1∧n1≤9223372036854775807 then some (XZ n1) else none
def mU (s1:Str):Nat→Int→Str→Option Str
 | 0,_,_=>none
 | bY + 1,i1,b2=>
  if decide (i1 < (s1.length:Int)) then
   ay (idx s1 i1) fun c1=>
   if ((c1.toNat:Int) == 34) || ((c1.toNat:Int) == 92) then
    ay (app b2 [92]) fun b3=>
    ay (app b3 [c1]) fun b4=>
    mU s1 bY (dA (i1 + 1)) b4
   else
    if (c1.toNat:Int) == 10 then
     ay (app b2 ([92,110]:Str)) fun b5=>
     mU s1 bY (dA (i1 + 1)) b5
    else
     if (c1.toNat:Int) == 9 then
      ay (app b2 ([92,116]:Str)) fun b6=>
      mU s1 bY (dA (i1 + 1)) b6
     else
      if (decide (32≤(c1.toNat:Int))) && (decide ((c1.toNat:Int)≤126)) then
       ay (app b2 [c1]) fun b7=>
       mU s1 bY (dA (i1 + 1)) b7
      else
       ay (app b2 ([92,120]:Str)) fun b8=>
       ay (idx ([48,49,50,51,52,53,54,55,56,57,97,98,99,100,101,102]:Str) ((c1 / 16).toNat:Int)) fun x1=>
       ay (app b8 [x1]) fun b9=>
       ay (idx ([48,49,50,51,52,53,54,55,56,57,97,98,99,100,101,102]:Str) ((c1 % 16).toNat:Int)) fun x2=>
       ay (app b9 [x2]) fun b10=>
       mU s1 bY (dA (i1 + 1)) b10
  else
   app b2 [34]
def Ac (s1:Str):Option Str:=
 ay (app [] [34]) fun b1=>
 mU s1 BIG 0 b1
def strings_Join (l1:List Str) (t1:Str):Option Str:=
 if l1.length≤140737488355328∧(NC l1 t1).length≤140737488355328 then some (NC l1 t1) else none
def qH (fA:ah→Option Str) (v1:ah):Nat→List Str→Int→Option Str
 | 0,_,_=>none
 | bY + 1,nM,i1=>
  if decide (i1 < (v1.bH.length:Int)) then
   ay (idx v1.bH i1) fun e1=>
   if v1.kind == 5 then
    ay (idx v1.keys i1) fun e2=>
    ay (Ac e2) fun x4=>
    ay (app x4 ([58,32]:Str)) fun x5=>
    ay (fA e1) fun x6=>
    ay (app x5 x6) fun x7=>
    ay (app nM ([x7]:List Str)) fun Ky=>
    qH fA v1 bY Ky (dA (i1 + 1))
   else
    ay (fA e1) fun x8=>
    ay (app nM ([x8]:List Str)) fun Kw=>
    qH fA v1 bY Kw (dA (i1 + 1))
  else
   ay (strings_Join nM ([44,32]:Str)) fun s3=>
   if v1.kind == 5 then
    ay (app ([123]:Str) s3) fun x9=>
    app x9 ([125]:Str)
   else
    ay (app ([91]:Str) s3) fun Nq=>
    app Nq ([93]:Str)
def u_ (fA:ah→Option Str) (v1:ah):Nat→List Str→Int→Option Str
 | 0,_,_=>none
 | ED + 1,Ef,i2=>
  if decide (i2 < (v1.bH.length:Int)) then
   ay (idx v1.bH i2) fun e3=>
   ay (idx v1.keys i2) fun e4=>
   ay (Ac e4) fun Yk=>
   ay (app Yk ([58,32]:Str)) fun Y_=>
   ay (fA e3) fun x15=>
   ay (app Y_ x15) fun Yj=>
   ay (app Ef ([Yj]:List Str)) fun WC=>
   u_ fA v1 ED WC (dA (i2 + 1))
  else
   ay (strings_Join Ef ([44,32]:Str)) fun s5=>
   ay (app ([123]:Str) s5) fun Y9=>
   app Y9 ([125]:Str)
def AU (fA:ah→Option Str) (v1:ah):Option Str:=
 if v1.kind == 1 then
  strconv_FormatBool v1.iD
 else
  if v1.kind == 2 then
   strconv_Itoa v1.iC
  else
   if v1.kind == 3 then
    Ac v1.gW
   else
    if v1.kind == 4 then
     qH fA v1 BIG [] 0
    else
     if v1.kind == 5 then
      u_ fA v1 BIG [] 0
     else
      some ([110,117,108,108]:Str)
def rZ :Nat→ah→Option Str
 | 0,_=>none
 | k + 1,pO=>AU (rZ k) pO
def D8 (pO:ah):Option Str:=rZ BIG pO
def Fq (v1:ah):Option (Str × Int):=
 if (v1.kind == 4) || (v1.kind == 5) then
  some (([]:Str),9)
 else
  ay (l5 v1) fun e1=>
  if e1 != 0 then
   some (([]:Str),e1)
  else
   if v1.kind == 0 then
    some (([]:Str),0)
   else
    if v1.kind == 3 then
     some (v1.gW,0)
    else
     ay (D8 v1) fun x1=>
     some (x1,0)
def uQ (s1:Str) (lo1:UInt8) (hi1:UInt8) (by1:Int):Nat→Int→Str→Option Str
 | 0,_,_=>none
 | bY + 1,i1,b1=>
  if decide (i1 < (s1.length:Int)) then
   ay (idx s1 i1) fun x1=>
   ay (
     if decide ((lo1.toNat:Int)≤(x1.toNat:Int)) then
      ay (idx s1 i1) fun x2=>
      some (decide ((x2.toNat:Int)≤(hi1.toNat:Int)))
     else
      some false) fun b2=>
   if b2 then
    ay (idx s1 i1) fun x3=>
    ay (app b1 [(Ft.byteOf (dA ((x3.toNat:Int) + by1)))]) fun b3=>
    uQ s1 lo1 hi1 by1 bY (dA (i1 + 1)) b3
   else
    ay (idx s1 i1) fun x4=>
    ay (app b1 [x4]) fun b4=>
    uQ s1 lo1 hi1 by1 bY (dA (i1 + 1)) b4
  else
   some b1
def DU (s1:Str) (lo1:UInt8) (hi1:UInt8) (by1:Int):Option Str:=
 uQ s1 lo1 hi1 by1 BIG 0 []
def strconv_Atoi (s1:Str):Option (Int × Option Nat):=
 if s1.length≤281474976710656 then some ((SX s1).2,if (SX s1).1=0 then none else some 321) else none
def Iz (s1:Str):Option (Int × Bool):=
 fJ (strconv_Atoi s1) fun n1 Dt=>
 ay (
   if Dt.isSome then
    some true
   else
    ay (strconv_Itoa n1) fun x1=>
    some (!(x1 == s1))) fun b1=>
 if (b1 || (decide (n1 < (-9007199254740992)))) || (decide (9007199254740992 < n1)) then
  some (0,false)
 else
  some (n1,true)
def Qj (name1:Str) (v1:ah):Option (eX aI ah):=
 if name1 == ([108,101,110]:Str) then
  ay (nC v1 3) fun x1=>
  ay (
    if x1 then
     some true
    else
     nC v1 4) fun b1=>
  ay (
    if b1 then
     some true
    else
     nC v1 5) fun b2=>
  f_ (gB b2 9) (fun e1=>some (.bad e1)) fun _=>
  ay (rV (dA ((v1.gW.length:Int) + (v1.bH.length:Int)))) fun x4=>
  some (.ok x4)
 else
  if name1 == ([107,101,121,115]:Str) then
   ay (nC v1 5) fun x5=>
   f_ (gB x5 9) (fun e2=>some (.bad e2)) fun _=>
   ay (Jz v1.keys) fun x6=>
   some (.ok x6)
  else
   if name1 == ([115,116,114,105,110,103]:Str) then
    fJ (Fq v1) fun t1 e3=>
    f_ (gB (e3 == 0) e3) (fun e4=>some (.bad e4)) fun _=>
    ay (vD t1) fun x7=>
    some (.ok x7)
   else
    ay (nC v1 3) fun x8=>
    f_ (gB x8 9) (fun e5=>some (.bad e5)) fun _=>
    if name1 == ([108,111,119,101,114]:Str) then
     ay (DU v1.gW 65 90 32) fun x9=>
     ay (vD x9) fun K3=>
     some (.ok K3)
    else
     if name1 == ([117,112,112,101,114]:Str) then
      ay (DU v1.gW 97 122 (-32)) fun Nq=>
      ay (vD Nq) fun UE=>
      some (.ok UE)
     else
      fJ (Iz v1.gW) fun n1 ok1=>
      f_ (gB ok1 1) (fun e6=>some (.bad e6)) fun _=>
      ay (rV n1) fun Yk=>
      some (.ok Yk)
def Dy (b1:Bool):Option Int:=
 if b1 then
  some 1
 else
  some 0
def dS (xq:List ah) (zC:List ah) (IK:ah→ah→Option Int):Nat→Int→Option Int
 | 0,_=>none
 | bY + 1,i1=>
  if decide (i1 < (xq.length:Int)) then
   ay (idx xq i1) fun e1=>
   if decide ((zC.length:Int)≤i1) then
    some 1
   else
    ay (idx zC i1) fun e2=>
    ay (IK e1 e2) fun c1=>
    if c1 != 0 then
     some c1
    else
     dS xq zC IK bY (dA (i1 + 1))
  else
   if decide ((xq.length:Int) < (zC.length:Int)) then
    some (-1)
   else
    some 0
def dZ (xq:List ah) (zC:List ah) (IK:ah→ah→Option Int):Option Int:=
 dS xq zC IK BIG 0
def fu (xq:List Str) (zC:List Str) (IK:Str→Str→Option Int):Nat→Int→Option Int
 | 0,_=>none
 | bY + 1,i1=>
  if decide (i1 < (xq.length:Int)) then
   ay (idx xq i1) fun aeW=>
   if decide ((zC.length:Int)≤i1) then
    some 1
   else
    ay (idx zC i1) fun aeV=>
    ay (IK aeW aeV) fun c1=>
    if c1 != 0 then
     some c1
    else
     fu xq zC IK bY (dA (i1 + 1))
  else
   if decide ((xq.length:Int) < (zC.length:Int)) then
    some (-1)
   else
    some 0
def iB (xq:List Str) (zC:List Str) (IK:Str→Str→Option Int):Option Int:=
 fu xq zC IK BIG 0
def AV (kg:ah→ah→Option Int) (a1:ah) (b1:ah):Option Int:=
 ay (cmp_Compare_int a1.kind b1.kind) fun c1=>
 if c1 != 0 then
  some c1
 else
  if a1.kind == 1 then
   ay (Dy a1.iD) fun x1=>
   ay (Dy b1.iD) fun x2=>
   cmp_Compare_int x1 x2
  else
   if a1.kind == 2 then
    cmp_Compare_int a1.iC b1.iC
   else
    if a1.kind == 3 then
     mJ a1.gW b1.gW
    else
     if a1.kind == 4 then
      dZ a1.bH b1.bH kg
     else
      if a1.kind == 5 then
       ay (iB a1.keys b1.keys lM) fun c2=>
       if c2 != 0 then
        some c2
       else
        dZ a1.bH b1.bH kg
      else
       some 0
def r9 :Nat→ah→ah→Option Int
 | 0,_,_=>none
 | k + 1,pQ,l6=>AV (r9 k) pQ l6
def D_ (pQ:ah) (l6:ah):Option Int:=r9 BIG pQ l6
def Ae (a1:ah) (b1:ah):Option Bool:=
 ay (D_ a1 b1) fun x1=>
 some (x1 == 0)
def sO (a1:ah) (b1:ah) (zo:Int):Option Bool:=
 some ((a1.kind == zo) && (b1.kind == zo))
def strings_Contains (s1:Str) (t1:Str):Option Bool:=
 if s1.length < 4294967281 then some (Bh s1 t1).isSome else none
def vE (a1:ah) (b1:ah):Nat→Int→Option (eX aI Bool)
 | 0,_=>none
 | bY + 1,x2=>
  if decide (x2 < (a1.bH.length:Int)) then
   ay (idx a1.bH x2) fun e1=>
   ay (Ae e1 b1) fun x3=>
   if x3 then
    some (.ok true)
   else
    vE a1 b1 bY (dA (x2 + 1))
  else
   some (.ok false)
def Er (a1:ah) (b1:ah):Option (eX aI Bool):=
 ay (nC a1 4) fun x1=>
 if x1 then
  vE a1 b1 BIG 0
 else
  ay (sO a1 b1 3) fun x4=>
  if x4 then
   ay (strings_Contains a1.gW b1.gW) fun x5=>
   some (.ok x5)
  else
   ay (nC a1 5) fun x6=>
   ay (
     if x6 then
      nC b1 3
     else
      some false) fun b2=>
   f_ (gB b2 9) (fun e2=>some (.bad e2)) fun _=>
   fJ (Jr a1 b1.gW) fun x8 ok1=>
   some (.ok ok1)
def kr (b1:Bool):Option ah:=
 some (ah.mk 1 b1 0 ([]:Str) [] [])
def yT (a1:ah) (b1:ah):Nat→Int→List Str→Int→Option (eX aI ah)
 | 0,_,_,_=>none
 | bY + 1,n1,l1,x3=>
  if decide (x3 < (a1.bH.length:Int)) then
   ay (idx a1.bH x3) fun e2=>
   ay (nC e2 3) fun x4=>
   f_ (gB x4 9) (fun e3=>some (.bad e3)) fun _=>
   ay (app l1 ([e2.gW]:List Str)) fun l2=>
   yT a1 b1 bY (dA (n1 + (e2.gW.length:Int))) l2 (dA (x3 + 1))
  else
   f_ (gB (decide ((dA (n1 + (dA ((b1.gW.length:Int) * (if 0 < (dA ((l1.length:Int) - 1)) then (dA ((l1.length:Int) - 1)) else 0)))))≤4096)) 3) (fun e4=>some (.bad e4)) fun _=>
   ay (strings_Join l1 b1.gW) fun x5=>
   ay (vD x5) fun x6=>
   some (.ok x6)
def IB (a1:ah) (b1:ah):Option (eX aI ah):=
 ay (nC a1 4) fun x1=>
 ay (
   if x1 then
    nC b1 3
   else
    some false) fun b2=>
 f_ (gB b2 9) (fun e1=>some (.bad e1)) fun _=>
 yT a1 b1 BIG 0 [] 0
def strings_HasPrefix (s1:Str) (mg:Str):Option Bool:=
 nA s1 mg
def strings_HasSuffix (s1:Str) (l9:Str):Option Bool:=
 ny s1 l9
def strings_Split (s1:Str) (t1:Str):Option (List Str):=
 if s1.length < 4294967281∧t1≠[] then some (Fx t1 (s1.length + 1) s1) else none
def Qg (name1:Str) (a1:ah) (b1:ah):Option (eX aI ah):=
 if name1 == ([100,101,102,97,117,108,116]:Str) then
  ay (nC a1 0) fun x1=>
  if x1 then
   some (.ok b1)
  else
   some (.ok a1)
 else
  if name1 == ([99,111,110,116,97,105,110,115]:Str) then
   f_ (Er a1 b1) (fun e1=>some (.bad e1)) fun x2=>
   ay (kr x2) fun x3=>
   some (.ok x3)
  else
   if name1 == ([106,111,105,110]:Str) then
    f_ (IB a1 b1) (fun e2=>some (.bad e2)) fun x4=>
    some (.ok x4)
   else
    ay (sO a1 b1 3) fun x5=>
    f_ (gB x5 9) (fun e3=>some (.bad e3)) fun _=>
    if name1 == ([115,116,97,114,116,115,119,105,116,104]:Str) then
     ay (strings_HasPrefix a1.gW b1.gW) fun x6=>
     ay (kr x6) fun x7=>
     some (.ok x7)
    else
     if name1 == ([101,110,100,115,119,105,116,104]:Str) then
      ay (strings_HasSuffix a1.gW b1.gW) fun x8=>
      ay (kr x8) fun x9=>
      some (.ok x9)
     else
      f_ (gB (!(b1.gW == ([]:Str))) 1) (fun e4=>some (.bad e4)) fun _=>
      ay (strings_Split a1.gW b1.gW) fun l1=>
      f_ (gB (decide ((l1.length:Int)≤1024)) 3) (fun e5=>some (.bad e5)) fun _=>
      ay (Jz l1) fun K3=>
      some (.ok K3)
def zL (v1:ah):Option (eX aI Bool):=
 ay (nC v1 1) fun x1=>
 f_ (gB x1 9) (fun e1=>some (.bad e1)) fun _=>
 some (.ok v1.iD)
def KL (op1:Str) (v1:ah):Option (eX aI ah):=
 if op1 == ([33]:Str) then
  f_ (zL v1) (fun e1=>some (.bad e1)) fun x1=>
  ay (kr (!x1)) fun x2=>
  some (.ok x2)
 else
  ay (nC v1 2) fun x3=>
  f_ (gB x3 9) (fun e2=>some (.bad e2)) fun _=>
  ay (rV (dA (0 - v1.iC))) fun x4=>
  some (.ok x4)
def zN (a1:ah) (b1:ah):Option (eX aI Int):=
 ay (sO a1 b1 2) fun x1=>
 ay (
   if x1 then
    some true
   else
    sO a1 b1 3) fun b2=>
 f_ (gB b2 9) (fun e1=>some (.bad e1)) fun _=>
 ay (D_ a1 b1) fun x3=>
 some (.ok x3)
def xR (n1:Int):Option (eX aI ah):=
 f_ (gB ((decide ((-9007199254740992)≤n1)) && (decide (n1≤9007199254740992))) 11) (fun e1=>some (.bad e1)) fun _=>
 ay (rV n1) fun x1=>
 some (.ok x1)
def Qh (a1:ah) (b1:ah):Option (eX aI ah):=
 ay (sO a1 b1 2) fun x1=>
 if x1 then
  f_ (xR (dA (a1.iC + b1.iC))) (fun e1=>some (.bad e1)) fun x2=>
  some (.ok x2)
 else
  ay (sO a1 b1 3) fun x3=>
  if x3 then
   f_ (gB (decide ((dA ((a1.gW.length:Int) + (b1.gW.length:Int)))≤4096)) 3) (fun e2=>some (.bad e2)) fun _=>
   ay (app a1.gW b1.gW) fun x4=>
   ay (vD x4) fun x5=>
   some (.ok x5)
  else
   ay (sO a1 b1 4) fun x6=>
   f_ (gB x6 9) (fun e3=>some (.bad e3)) fun _=>
   f_ (gB (decide ((dA ((a1.bH.length:Int) + (b1.bH.length:Int)))≤1024)) 3) (fun e4=>some (.bad e4)) fun _=>
   ay (app [] a1.bH) fun l1=>
   ay (app l1 b1.bH) fun x7=>
   ay (F7 x7) fun x8=>
   some (.ok x8)
def LH (n1:Int):Option (BitVec 64):=
 if decide (n1 < 0) then
  some (-(BitVec.ofInt 64 n1))
 else
  some (BitVec.ofInt 64 n1)
def FM (a1:Int) (b1:Int):Option jC:=
 ay (LH a1) fun x1=>
 ay (LH b1) fun y1=>
 ay (some ((x1 &&& (4294967295:BitVec 64)) * (y1 &&& (4294967295:BitVec 64)))) fun PY=>
 ay (some ((x1 >>> 32) * (y1 &&& (4294967295:BitVec 64)))) fun x2=>
 ay (some ((x1 &&& (4294967295:BitVec 64)) * (y1 >>> 32))) fun x3=>
 ay (some ((x2 + (PY >>> 32)) &&& (4294967295:BitVec 64))) fun x4=>
 ay (some (((x1 >>> 32) * (y1 >>> 32)) + ((x2 + (PY >>> 32)) >>> 32))) fun x5=>
 ay (some (((x3 + x4) <<< 32) ||| (PY &&& (4294967295:BitVec 64)))) fun x6=>
 some (jC.mk ([(x5 + ((x3 + x4) >>> 32)),x6]:List (BitVec 64)) ((!((decide (a1 < 0)) == (decide (b1 < 0)))) && (!decide (([((x5 + ((x3 + x4) >>> 32)).toNat:Int),(x6.toNat:Int)]:List Int)=([0,0]:List Int)))))
def xA (p1:jC):Option (Int × Bool):=
 if ((p1.half.getD 0 0).toNat:Int) != 0 then
  some (0,false)
 else
  if p1.neg && (decide (((p1.half.getD 1 0).toNat:Int)≤9223372036854775808)) then
   some ((dA ((-(p1.half.getD 1 0)).toNat:Int)),true)
  else
   if (!p1.neg) && (decide (((p1.half.getD 1 0).toNat:Int)≤9223372036854775807)) then
    some ((dA ((p1.half.getD 1 0).toNat:Int)),true)
   else
    some (0,false)
def TL (abS:Bool):Option Int:=
 if abS then
  some (-9223372036854775808)
 else
  some 9223372036854775807
def TM (a1:Int) (b1:Int):Option Int:=
 ay (FM a1 b1) fun x1=>
 fJ (xA x1) fun n1 ok1=>
 if ok1 then
  some n1
 else
  TL x1.neg
def Bl (op1:Str) (a1:ah) (b1:ah):Option (eX aI ah):=
 ay (sO a1 b1 2) fun x1=>
 f_ (gB x1 9) (fun e1=>some (.bad e1)) fun _=>
 if op1 == ([45]:Str) then
  f_ (xR (dA (a1.iC - b1.iC))) (fun e2=>some (.bad e2)) fun x2=>
  some (.ok x2)
 else
  if op1 == ([42]:Str) then
   ay (TM a1.iC b1.iC) fun x3=>
   f_ (xR x3) (fun e3=>some (.bad e3)) fun x4=>
   some (.ok x4)
  else
   f_ (gB (b1.iC != 0) 12) (fun e4=>some (.bad e4)) fun _=>
   if op1 == ([47]:Str) then
    ay (chk (!(b1.iC == 0))) fun _=>
    f_ (xR (dA ((a1.iC:Int).tdiv b1.iC))) (fun e5=>some (.bad e5)) fun x5=>
    some (.ok x5)
   else
    ay (chk (!(b1.iC == 0))) fun _=>
    ay (rV ((a1.iC:Int).tmod b1.iC)) fun x6=>
    some (.ok x6)
def wM (bU:Int) (x1:ah):Int:=if (x1.kind == 4 || x1.kind == 5) && ((x1.bH.length:Int) == 0) then dA (bU + 1) else bU
def xX (acH:Int) (bU:Int) (x1:ah):Option (Bool × Int):=
 some (true,if acH < wM bU x1 then wM bU x1 else acH)
def Fp (v1:ah):Option Int:=
 fJ (Fj xX 0 v1 1) fun _ s1=>
 some s1
def zT (y1:aA) (c1:aA):Option Bool:=
 some (y1.name == c1.name)
def fF (s1:List aA) (f1:aA→Option Bool):Nat→Int→Option Int
 | 0,_=>none
 | bY + 1,i1=>
  if decide (i1 < (s1.length:Int)) then
   ay (idx s1 i1) fun e1=>
   ay (f1 e1) fun x1=>
   if x1 then
    some i1
   else
    fF s1 f1 bY (dA (i1 + 1))
  else
   some (-1)
def iA (s1:List aA) (f1:aA→Option Bool):Option Int:=
 fF s1 f1 BIG 0
def j4 (s1:List aA) (f1:aA→Option Bool):Option Bool:=
 ay (iA s1 f1) fun x1=>
 some (decide (0≤x1))
def Hu (dK:List aA) (i1:Int):Option Int:=
 ay (idx dK i1) fun e1=>
 if (decide ((e1.name.length:Int) < 1)) || (decide (64 < (e1.name.length:Int))) then
  some 1
 else
  ay (l5 e1.value) fun e2=>
  if e2 != 0 then
   some e2
  else
   ay (Fp e1.value) fun x1=>
   if decide (16≤x1) then
    some 13
   else
    ay (sl dK 0 i1) fun x2=>
    ay (j4 x2 (fun z0=>zT z0 e1)) fun x3=>
    if x3 then
     some 7
    else
     some 0
def gu (s1:List aA):Option (List aA):=
 app [] s1
def Nr (a1:aA) (b1:aA):Option Int:=
 lM a1.name b1.name
def BG (wQ:List aA):Nat→Int→ah→Option (ah × Int)
 | 0,_,_=>none
 | ED + 1,x1,bg=>
  if decide (x1 < (wQ.length:Int)) then
   ay (idx wQ x1) fun e2=>
   ay (app bg.keys ([e2.name]:List Str)) fun x2=>
   ay (Hw e2.value) fun x3=>
   ay (app bg.bH [x3]) fun x4=>
   BG wQ ED (dA (x1 + 1)) (ah.mk bg.kind bg.iD bg.iC bg.gW x4 x2)
  else
   some (bg,0)
def BH (dK:List aA):Nat→Int→Option (ah × Int)
 | 0,_=>none
 | bY + 1,i1=>
  if decide (i1 < (dK.length:Int)) then
   ay (Hu dK i1) fun e1=>
   if e1 != 0 then
    some ((ah.mk 0 false 0 ([]:Str) [] []),e1)
   else
    BH dK bY (dA (i1 + 1))
  else
   ay (gu dK) fun XI=>
   ay (ZO (fun x=>x.name) XI) fun wQ=>
   BG wQ BIG 0 (ah.mk 5 false 0 ([]:Str) [] [])
def ME (dK:List aA):Option (ah × Int):=
 if decide (1024 < (dK.length:Int)) then
  some ((ah.mk 0 false 0 ([]:Str) [] []),3)
 else
  BH dK BIG 0
def yR (bJ:List aA→aj→Option (eX aI ah)) (dB:List aA→aj→Option (eX aI ah)) (dw:List aA→List aj→Option (eX aI (List ah))) (cB:List aA→aj→Option (eX aI ah)) (b_:List aA→aj→Option (eX aI ah)) (s1:List aA) (e1:aj):Option (eX aI ah):=
 if e1.kind == 1 then
  some (.ok e1.value)
 else
  if e1.kind == 2 then
   f_ (Bj s1 e1.name) (fun e2=>some (.bad e2)) fun x1=>
   some (.ok x1)
  else
   if e1.kind == 3 then
    ay (idx e1.args 0) fun e3=>
    f_ (bJ s1 e3) (fun e4=>some (.bad e4)) fun x2=>
    ay (vD e1.name) fun x3=>
    f_ (F4 x2 x3) (fun e5=>some (.bad e5)) fun x4=>
    some (.ok x4)
   else
    if e1.kind == 4 then
     ay (idx e1.args 0) fun e6=>
     f_ (bJ s1 e6) (fun e7=>some (.bad e7)) fun x5=>
     ay (idx e1.args 1) fun e8=>
     f_ (bJ s1 e8) (fun e9=>some (.bad e9)) fun x6=>
     f_ (F5 x5 x6) (fun e10=>some (.bad e10)) fun x7=>
     some (.ok x7)
    else
     if e1.kind == 5 then
      f_ (dB s1 e1) (fun e11=>some (.bad e11)) fun x8=>
      some (.ok x8)
     else
      if e1.kind == 6 then
       ay (idx e1.args 0) fun e12=>
       f_ (bJ s1 e12) (fun e13=>some (.bad e13)) fun x9=>
       f_ (KL e1.name x9) (fun e14=>some (.bad e14)) fun K3=>
       some (.ok K3)
      else
       if e1.kind == 7 then
        f_ (cB s1 e1) (fun e15=>some (.bad e15)) fun Nq=>
        some (.ok Nq)
       else
        if e1.kind == 8 then
         ay (idx e1.args 0) fun e16=>
         f_ (bJ s1 e16) (fun e17=>some (.bad e17)) fun UE=>
         f_ (zL UE) (fun e18=>some (.bad e18)) fun Yk=>
         if Yk then
          ay (idx e1.args 1) fun e19=>
          f_ (bJ s1 e19) (fun e20=>some (.bad e20)) fun Y_=>
          some (.ok Y_)
         else
          ay (idx e1.args 2) fun e21=>
          f_ (bJ s1 e21) (fun e22=>some (.bad e22)) fun x15=>
          some (.ok x15)
        else
         if e1.kind == 9 then
          f_ (dw s1 e1.args) (fun e23=>some (.bad e23)) fun Yj=>
          ay (F7 Yj) fun Y9=>
          ay (l5 Y9) fun x18=>
          f_ (gB (x18 == 0) 13) (fun e24=>some (.bad e24)) fun _=>
          some (.ok Y9)
         else
          f_ (b_ s1 e1) (fun e25=>some (.bad e25)) fun x19=>
          some (.ok x19)
def yS (bJ:List aA→aj→Option (eX aI ah)) (dB:List aA→aj→Option (eX aI ah)) (dw:List aA→List aj→Option (eX aI (List ah))) (cB:List aA→aj→Option (eX aI ah)) (b_:List aA→aj→Option (eX aI ah)) (s1:List aA) (e1:aj):Option (eX aI ah):=
 ay (KN e1.name) fun n1=>
 f_ (gB (decide (0 < n1)) 10) (fun e2=>some (.bad e2)) fun _=>
 f_ (gB ((e1.args.length:Int) == n1) 1) (fun e3=>some (.bad e3)) fun _=>
 f_ (dw s1 e1.args) (fun e4=>some (.bad e4)) fun args1=>
 if n1 == 1 then
  ay (idx args1 0) fun e5=>
  f_ (Qj e1.name e5) (fun e6=>some (.bad e6)) fun x1=>
  some (.ok x1)
 else
  ay (idx args1 0) fun e7=>
  ay (idx args1 1) fun e8=>
  f_ (Qg e1.name e7 e8) (fun e9=>some (.bad e9)) fun x2=>
  some (.ok x2)
def tK (bJ:List aA→aj→Option (eX aI ah)) (s1:List aA) (l1:List aj):Nat→List ah→Int→Option (eX aI (List ah))
 | 0,_,_=>none
 | bY + 1,bg,x1=>
  if decide (x1 < (l1.length:Int)) then
   ay (idx l1 x1) fun e1=>
   f_ (bJ s1 e1) (fun e2=>some (.bad e2)) fun x2=>
   ay (app bg [x2]) fun jJ=>
   tK bJ s1 l1 bY jJ (dA (x1 + 1))
  else
   some (.ok bg)
def zM (bJ:List aA→aj→Option (eX aI ah)) (dB:List aA→aj→Option (eX aI ah)) (dw:List aA→List aj→Option (eX aI (List ah))) (cB:List aA→aj→Option (eX aI ah)) (b_:List aA→aj→Option (eX aI ah)) (s1:List aA) (l1:List aj):Option (eX aI (List ah)):=
 tK bJ s1 l1 BIG [] 0
def vV (bJ:List aA→aj→Option (eX aI ah)) (dB:List aA→aj→Option (eX aI ah)) (dw:List aA→List aj→Option (eX aI (List ah))) (cB:List aA→aj→Option (eX aI ah)) (b_:List aA→aj→Option (eX aI ah)) (s1:List aA) (e1:aj):Option (eX aI ah):=
 ay (idx e1.args 0) fun e2=>
 f_ (bJ s1 e2) (fun e3=>some (.bad e3)) fun x1=>
 if (e1.name == ([38,38]:Str)) || (e1.name == ([124,124]:Str)) then
  f_ (zL x1) (fun e4=>some (.bad e4)) fun x2=>
  if x2 == (e1.name == ([124,124]:Str)) then
   some (.ok x1)
  else
   ay (idx e1.args 1) fun e5=>
   f_ (bJ s1 e5) (fun e6=>some (.bad e6)) fun x3=>
   f_ (zL x3) (fun e7=>some (.bad e7)) fun x4=>
   ay (kr x4) fun x5=>
   some (.ok x5)
 else
  ay (idx e1.args 1) fun e8=>
  f_ (bJ s1 e8) (fun e9=>some (.bad e9)) fun x6=>
  if e1.name == ([61,61]:Str) then
   ay (Ae x1 x6) fun x7=>
   ay (kr x7) fun x8=>
   some (.ok x8)
  else
   if e1.name == ([33,61]:Str) then
    ay (Ae x1 x6) fun x9=>
    ay (kr (!x9)) fun K3=>
    some (.ok K3)
   else
    if e1.name == ([60]:Str) then
     f_ (zN x1 x6) (fun e10=>some (.bad e10)) fun Nq=>
     ay (kr (decide (Nq < 0))) fun UE=>
     some (.ok UE)
    else
     if e1.name == ([60,61]:Str) then
      f_ (zN x1 x6) (fun e11=>some (.bad e11)) fun Yk=>
      ay (kr (decide (Yk≤0))) fun Y_=>
      some (.ok Y_)
     else
      if e1.name == ([62]:Str) then
       f_ (zN x1 x6) (fun e12=>some (.bad e12)) fun x15=>
       ay (kr (decide (0 < x15))) fun Yj=>
       some (.ok Yj)
      else
       if e1.name == ([62,61]:Str) then
        f_ (zN x1 x6) (fun e13=>some (.bad e13)) fun Y9=>
        ay (kr (decide (0≤Y9))) fun x18=>
        some (.ok x18)
       else
        if e1.name == ([43]:Str) then
         f_ (Qh x1 x6) (fun e14=>some (.bad e14)) fun x19=>
         some (.ok x19)
        else
         f_ (Bl e1.name x1 x6) (fun e15=>some (.bad e15)) fun x20=>
         some (.ok x20)
def o8 (e1:aj) (x1:List ah):Nat→List aA→Int→Option (eX aI ah)
 | 0,_,_=>none
 | bY + 1,dK,i1=>
  if decide (i1 < (x1.length:Int)) then
   ay (idx x1 i1) fun e3=>
   ay (idx e1.keys i1) fun e4=>
   ay (app dK [(aA.mk e4 e3)]) fun Zq=>
   o8 e1 x1 bY Zq (dA (i1 + 1))
  else
   fJ (ME dK) fun x2 uT=>
   f_ (gB (uT == 0) uT) (fun e5=>some (.bad e5)) fun _=>
   some (.ok x2)
def uP (bJ:List aA→aj→Option (eX aI ah)) (dB:List aA→aj→Option (eX aI ah)) (dw:List aA→List aj→Option (eX aI (List ah))) (cB:List aA→aj→Option (eX aI ah)) (b_:List aA→aj→Option (eX aI ah)) (s1:List aA) (e1:aj):Option (eX aI ah):=
 f_ (dw s1 e1.args) (fun e2=>some (.bad e2)) fun x1=>
 o8 e1 x1 BIG [] 0
mutual
def gI :Nat→List aA→aj→Option (eX aI ah)
 | 0,_,_=>none
 | k + 1,rH,jT=>yR (gI k) (gJ k) (g_ k) (fK k) (fC k) rH jT
def gJ :Nat→List aA→aj→Option (eX aI ah)
 | 0,_,_=>none
 | k + 1,rH,jT=>yS (gI k) (gJ k) (g_ k) (fK k) (fC k) rH jT
def g_ :Nat→List aA→List aj→Option (eX aI (List ah))
 | 0,_,_=>none
 | k + 1,rH,Zb=>zM (gI k) (gJ k) (g_ k) (fK k) (fC k) rH Zb
def fK :Nat→List aA→aj→Option (eX aI ah)
 | 0,_,_=>none
 | k + 1,rH,jT=>vV (gI k) (gJ k) (g_ k) (fK k) (fC k) rH jT
def fC :Nat→List aA→aj→Option (eX aI ah)
 | 0,_,_=>none
 | k + 1,rH,jT=>uP (gI k) (gJ k) (g_ k) (fK k) (fC k) rH jT
end
def Gw (rH:List aA) (jT:aj):Option (eX aI ah):=gI BIG rH jT
def Ot (rH:List aA) (jT:aj):Option (eX aI ah):=gJ BIG rH jT
def Qi (rH:List aA) (Zb:List aj):Option (eX aI (List ah)):=g_ BIG rH Zb
def L_ (rH:List aA) (jT:aj):Option (eX aI ah):=fK BIG rH jT
def KM (rH:List aA) (jT:aj):Option (eX aI ah):=fC BIG rH jT
def CW (s1:List aA) (e1:aj):Option (ah × Int):=
 f_ (Gw s1 e1) (fun f1=>some ((ah.mk 0 false 0 ([]:Str) [] []),f1.code)) fun v1=>
 some (v1,0)
def zY (lN:ah→Option ah) (v1:ah):Nat→Int→ah→Option ah
 | 0,_,_=>none
 | bY + 1,x1,bg=>
  if decide (x1 < (v1.bH.length:Int)) then
   ay (idx v1.bH x1) fun e1=>
   ay (lN e1) fun x2=>
   ay (app bg.bH [x2]) fun x3=>
   zY lN v1 bY (dA (x1 + 1)) (ah.mk bg.kind bg.iD bg.iC bg.gW x3 bg.keys)
  else
   ay (app bg.keys v1.keys) fun x4=>
   some (ah.mk bg.kind bg.iD bg.iC bg.gW bg.bH x4)
def F6 (lN:ah→Option ah) (v1:ah):Option ah:=
 zY lN v1 BIG 0 (ah.mk v1.kind v1.iD v1.iC v1.gW [] [])
def yU :Nat→ah→Option ah
 | 0,_=>none
 | k + 1,pO=>F6 (yU k) pO
def Qk (pO:ah):Option ah:=yU BIG pO
def EX (e1:aj) (mZ:List aA):Option (ah × Int):=
 fJ (Iy e1 mZ) fun s1 f1=>
 if f1 != 0 then
  some ((ah.mk 0 false 0 ([]:Str) [] []),f1)
 else
  fJ (CW s1 e1) fun x1 f2=>
  ay (Qk x1) fun x2=>
  some (x2,f2)
def uj (pW:aD→Option aD) (t1:aD):Option aD:=
 ay (gN t1.kind) fun x1=>
 if !x1 then
  gM t1.kind
 else
  ay (idx t1.elem 0) fun e1=>
  ay (pW e1) fun x3=>
  m_ t1.kind x3
def mV :Nat→aD→Option aD
 | 0,_=>none
 | k + 1,Oa=>uj (mV k) Oa
def BI (Oa:aD):Option aD:=mV BIG Oa
def qz (qQ:aD→aD→Option aD) (a1:aD) (b1:aD):Option aD:=
 if a1.kind == 7 then
  BI b1
 else
  if b1.kind == 7 then
   BI a1
  else
   if a1.kind != b1.kind then
    gM 0
   else
    ay (gN a1.kind) fun x4=>
    if x4 then
     ay (idx a1.elem 0) fun e1=>
     ay (idx b1.elem 0) fun e2=>
     ay (qQ e1 e2) fun x5=>
     m_ a1.kind x5
    else
     gM a1.kind
def lJ :Nat→aD→aD→Option aD
 | 0,_,_=>none
 | k + 1,pQ,l6=>qz (lJ k) pQ l6
def Dz (pQ:aD) (l6:aD):Option aD:=lJ BIG pQ l6
def uh (kN:ah→Option aD) (v1:ah):Nat→Int→aD→Option aD
 | 0,_,_=>none
 | bY + 1,x6,pF=>
  if decide (x6 < (v1.bH.length:Int)) then
   ay (idx v1.bH x6) fun e1=>
   ay (kN e1) fun x7=>
   ay (Dz pF x7) fun x8=>
   uh kN v1 bY (dA (x6 + 1)) x8
  else
   if v1.kind == 4 then
    m_ 5 pF
   else
    m_ 6 pF
def zU (kN:ah→Option aD) (v1:ah):Option aD:=
 if v1.kind == 0 then
  gM 1
 else
  if v1.kind == 1 then
   gM 2
  else
   if v1.kind == 2 then
    gM 3
   else
    if v1.kind == 3 then
     gM 4
    else
     ay (gM 7) fun x5=>
     uh kN v1 BIG 0 x5
def mP :Nat→ah→Option aD
 | 0,_=>none
 | k + 1,pO=>zU (mP k) pO
def Hz (pO:ah):Option aD:=mP BIG pO
def kT :Nat→Int→aD→Option Int
 | 0,_,_=>none
 | bY + 1,bU,t2=>
  if decide (16 < bU) then
   some 13
  else
   ay (rC t2.kind) fun x1=>
   ay (
     if x1 == ([]:Str) then
      some true
     else
      ay (gN t2.kind) fun x2=>
      some (x2 && ((t2.elem.length:Int) != 1))) fun b1=>
   ay (
     if b1 then
      some true
     else
      ay (gN t2.kind) fun x3=>
      some ((!x3) && ((t2.elem.length:Int) != 0))) fun b2=>
   if b2 then
    some 1
   else
    ay (gN t2.kind) fun x4=>
    if !x4 then
     some 0
    else
     ay (idx t2.elem 0) fun e1=>
     kT bY (dA (bU + 1)) e1
def pY (t1:aD):Option Int:=
 kT BIG 1 t1
def DC (a1:aD) (b1:aD):Option Bool:=
 ay (pY a1) fun x1=>
 if x1 == 0 then
  ay (pY b1) fun x2=>
  some (x2 == 0)
 else
  some false
def nJ (oG:aD→aD→Option Bool) (a1:aD) (b1:aD):Option Bool:=
 if (a1.kind == 7) || (b1.kind == 0) then
  some true
 else
  if a1.kind != b1.kind then
   some false
  else
   ay (gN a1.kind) fun x1=>
   if x1 then
    ay (idx a1.elem 0) fun e1=>
    ay (idx b1.elem 0) fun e2=>
    oG e1 e2
   else
    some true
def jU :Nat→aD→aD→Option Bool
 | 0,_,_=>none
 | k + 1,pQ,l6=>nJ (jU k) pQ l6
def Eb (pQ:aD) (l6:aD):Option Bool:=jU BIG pQ l6
def Fu (a1:aD) (b1:aD):Option Bool:=
 ay (DC a1 b1) fun x1=>
 if x1 then
  Eb a1 b1
 else
  some false
def xH (v1:ah) (t1:aD):Option Bool:=
 ay (l5 v1) fun x1=>
 if x1 == 0 then
  ay (Hz v1) fun x2=>
  Fu x2 t1
 else
  some false
def tq (b1:au):Nat→Int→Option (aQ × Int)
 | 0,_=>none
 | bY + 1,x2=>
  if decide (x2 < (b1.attrs.length:Int)) then
   ay (idx b1.attrs x2) fun e1=>
   if (!(e1.name == ([116,121,112,101]:Str))) && (!(e1.name == ([100,101,102,97,117,108,116]:Str))) then
    some ((aQ.mk ([]:Str) (aD.mk 0 []) false (ah.mk 0 false 0 ([]:Str) [] [])),10)
   else
    tq b1 bY (dA (x2 + 1))
  else
   fJ (Ar b1 ([116,121,112,101]:Str)) fun x3 is1=>
   if !is1 then
    some ((aQ.mk ([]:Str) (aD.mk 0 []) false (ah.mk 0 false 0 ([]:Str) [] [])),8)
   else
    if (x3.kind != 1) || (x3.value.kind != 3) then
     some ((aQ.mk ([]:Str) (aD.mk 0 []) false (ah.mk 0 false 0 ([]:Str) [] [])),9)
    else
     fJ (Fv x3.value.gW) fun x4 e2=>
     if e2 != 0 then
      some ((aQ.mk ([]:Str) (aD.mk 0 []) false (ah.mk 0 false 0 ([]:Str) [] [])),e2)
     else
      fJ (Ar b1 ([100,101,102,97,117,108,116]:Str)) fun x5 is2=>
      if !is2 then
       some ((aQ.mk b1.name x4 false (ah.mk 0 false 0 ([]:Str) [] [])),0)
      else
       fJ (EX x5 []) fun x6 e3=>
       if e3 != 0 then
        some ((aQ.mk ([]:Str) (aD.mk 0 []) false (ah.mk 0 false 0 ([]:Str) [] [])),e3)
       else
        ay (xH x6 x4) fun x7=>
        if !x7 then
         some ((aQ.mk ([]:Str) (aD.mk 0 []) false (ah.mk 0 false 0 ([]:Str) [] [])),9)
        else
         some ((aQ.mk b1.name x4 true x6),0)
def Cv (b1:au):Option (aQ × Int):=
 ay (Cu b1.name) fun x1=>
 if (!x1) || (decide (0 < (b1.blocks.length:Int))) then
  some ((aQ.mk ([]:Str) (aD.mk 0 []) false (ah.mk 0 false 0 ([]:Str) [] [])),1)
 else
  tq b1 BIG 0
def tu (q1:aQ) (c1:aQ):Option Bool:=
 some (q1.name == c1.name)
def eT (s1:List aQ) (f1:aQ→Option Bool):Nat→Int→Option Int
 | 0,_=>none
 | bY + 1,i1=>
  if decide (i1 < (s1.length:Int)) then
   ay (idx s1 i1) fun e1=>
   ay (f1 e1) fun x1=>
   if x1 then
    some i1
   else
    eT s1 f1 bY (dA (i1 + 1))
  else
   some (-1)
def gD (s1:List aQ) (f1:aQ→Option Bool):Option Int:=
 eT s1 f1 BIG 0
def jG (s1:List aQ) (f1:aQ→Option Bool):Option Bool:=
 ay (gD s1 f1) fun x1=>
 some (decide (0≤x1))
def oK (b1:au):Nat→List aQ→Int→au→Option (List aQ × au × Int)
 | 0,_,_,_=>none
 | bY + 1,ps1,x2,jq=>
  if decide (x2 < (b1.blocks.length:Int)) then
   ay (idx b1.blocks x2) fun e1=>
   if !(e1.kind == ([112,97,114,97,109]:Str)) then
    ay (xk e1) fun x3=>
    ay (app jq.blocks [x3]) fun x4=>
    oK b1 bY ps1 (dA (x2 + 1)) (au.mk jq.kind jq.name jq.attrs x4)
   else
    fJ (Cv e1) fun x5 e2=>
    if e2 != 0 then
     some ([],(au.mk ([]:Str) ([]:Str) [] []),e2)
    else
     ay (jG ps1 (fun z0=>tu z0 x5)) fun x6=>
     if x6 then
      some ([],(au.mk ([]:Str) ([]:Str) [] []),7)
     else
      ay (app ps1 [x5]) fun ps2=>
      oK b1 bY ps2 (dA (x2 + 1)) jq
  else
   some (ps1,jq,0)
def A9 (b1:au):Option (List aQ × au × Int):=
 ay (mE b1.attrs) fun x1=>
 oK b1 BIG [] 0 (au.mk b1.kind b1.name x1 [])
def rO (t1:bK) (c1:au):Option Bool:=
 some (t1.name == c1.name)
def fZ (s1:List bK) (f1:bK→Option Bool):Nat→Int→Option Int
 | 0,_=>none
 | bY + 1,i1=>
  if decide (i1 < (s1.length:Int)) then
   ay (idx s1 i1) fun e1=>
   ay (f1 e1) fun x1=>
   if x1 then
    some i1
   else
    fZ s1 f1 bY (dA (i1 + 1))
  else
   some (-1)
def gG (s1:List bK) (f1:bK→Option Bool):Option Int:=
 fZ s1 f1 BIG 0
def iN (s1:List bK) (f1:bK→Option Bool):Option Bool:=
 ay (gG s1 f1) fun x1=>
 some (decide (0≤x1))
def nQ (f1:dY):Nat→List bK→Int→dY→Option (List bK × dY × Int)
 | 0,_,_,_=>none
 | bY + 1,Dm,x1,jq=>
  if decide (x1 < (f1.blocks.length:Int)) then
   ay (idx f1.blocks x1) fun e2=>
   if !(e2.kind == ([116,101,109,112,108,97,116,101]:Str)) then
    ay (xk e2) fun x2=>
    ay (app jq.blocks [x2]) fun x3=>
    nQ f1 bY Dm (dA (x1 + 1)) (dY.mk x3)
   else
    ay (KG e2.name) fun x4=>
    if !x4 then
     some ([],(dY.mk []),1)
    else
     wL (A9 e2) fun ps1 x5 e3=>
     if e3 != 0 then
      some ([],(dY.mk []),e3)
     else
      ay (iN Dm (fun z0=>rO z0 e2)) fun x6=>
      if x6 then
       some ([],(dY.mk []),7)
      else
       ay (app Dm [(bK.mk e2.name ps1 (au.mk ([]:Str) ([]:Str) x5.attrs x5.blocks))]) fun ts2=>
       nQ f1 bY ts2 (dA (x1 + 1)) jq
  else
   some (Dm,jq,0)
def zy (f1:dY):Option (List bK × dY × Int):=
 ay (za f1) fun e1=>
 if e1 != 0 then
  some ([],(dY.mk []),e1)
 else
  nQ f1 BIG [] 0 (dY.mk [])
def lD (t1:bK) (c1:au):Option Bool:=
 some (t1.name == c1.name)
def sj (p1:aQ) (c1:aA):Option Bool:=
 some (p1.name == c1.name)
def r_ (v1:aA) (c1:Str):Option Bool:=
 some (v1.name == c1)
def n_ (dK:List aA) (name1:Str):Option (ah × Bool):=
 ay (iA dK (fun z0=>r_ z0 name1)) fun i1=>
 if decide (i1 < 0) then
  some ((ah.mk 0 false 0 ([]:Str) [] []),false)
 else
  ay (idx dK i1) fun e1=>
  some (e1.value,true)
abbrev ow (bg:List aA) (x4:Int) (e3:aQ) (JN:List aA→Int→Option (List aA × Int)) (v2:ah):Option (List aA × Int):=
 ay (mD v2) fun x6=>
 ay (app bg [(aA.mk e3.name x6)]) fun jJ=>
 JN jJ (dA (x4 + 1))
def j3 (ps1:List aQ) (args1:List aA):Nat→List aA→Int→Option (List aA × Int)
 | 0,_,_=>none
 | ED + 1,bg,x4=>
  if decide (x4 < (ps1.length:Int)) then
   ay (idx ps1 x4) fun e3=>
   fJ (n_ args1 e3.name) fun x5 is1=>
   if (!is1) && (!e3.has) then
    some ([],8)
   else
    if !is1 then
     ow bg x4 e3 (j3 ps1 args1 ED) e3.default
    else
     ow bg x4 e3 (j3 ps1 args1 ED) x5
  else
   some (bg,0)
def ou (ps1:List aQ) (args1:List aA):Nat→Int→Option (List aA × Int)
 | 0,_=>none
 | bY + 1,i1=>
  if decide (i1 < (args1.length:Int)) then
   ay (idx args1 i1) fun e1=>
   ay (gD ps1 (fun z0=>sj z0 e1)) fun zo=>
   ay (sl args1 0 i1) fun x1=>
   fJ (n_ x1 e1.name) fun x2 Pe=>
   if decide (zo < 0) then
    some ([],10)
   else
    if Pe then
     some ([],7)
    else
     ay (idx ps1 zo) fun e2=>
     ay (xH e1.value e2.Gs) fun x3=>
     if !x3 then
      some ([],9)
     else
      ou ps1 args1 bY (dA (i1 + 1))
  else
   j3 ps1 args1 BIG [] 0
def sK (ps1:List aQ) (args1:List aA):Option (List aA × Int):=
 ou ps1 args1 BIG 0
def qN (s1:Str):Nat→Int→Option Int
 | 0,_=>none
 | bY + 1,i1=>
  if decide (i1 < (s1.length:Int)) then
   ay (idx s1 i1) fun x1=>
   if (x1.toNat:Int) == 92 then
    qN s1 bY (dA ((dA (i1 + 1)) + 1))
   else
    if (x1.toNat:Int) == 34 then
     some (dA (i1 + 1))
    else
     qN s1 bY (dA (i1 + 1))
  else
   some (s1.length:Int)
def Em (s1:Str) (jy:Int):Option Int:=
 qN s1 BIG (dA (jy + 1))
def lU (s1:Str):Nat→Int→Int→Option Int
 | 0,_,_=>none
 | bY + 1,at2,ku=>
  if decide (at2 < (s1.length:Int)) then
   ay (idx s1 at2) fun x1=>
   if (x1.toNat:Int) == 34 then
    ay (Em s1 at2) fun at3=>
    lU s1 bY at3 ku
   else
    if (x1.toNat:Int) == 123 then
     lU s1 bY (dA (at2 + 1)) (dA (ku + 1))
    else
     if (x1.toNat:Int) == 125 then
      if ku == 0 then
       some at2
      else
       lU s1 bY (dA (at2 + 1)) (dA (ku - 1))
     else
      lU s1 bY (dA (at2 + 1)) ku
  else
   some (-1)
def CS (s1:Str) (jy:Int):Option Int:=
 lU s1 BIG jy 0
def CR (o_:Int):Option Bool:=
 some ((o_ == 32) || (o_ == 9))
def yI (s1:Str) (IQ:UInt8→Option Bool):Nat→Int→Option Int
 | 0,_=>none
 | bY + 1,at2=>
  ay (
    if decide (at2 < (s1.length:Int)) then
     ay (idx s1 at2) fun x1=>
     IQ x1
    else
     some false) fun b1=>
  if b1 then
   yI s1 IQ bY (dA (at2 + 1))
  else
   some at2
def Ao (s1:Str) (jy:Int) (IQ:UInt8→Option Bool):Option Int:=
 yI s1 IQ BIG jy
def yL (c1:UInt8):Option Bool:=
 some ((c1.toNat:Int) != 10)
def yJ (c1:UInt8):Option Bool:=
 some ((((decide (97≤(c1.toNat:Int))) && (decide ((c1.toNat:Int)≤122))) || ((decide (65≤(c1.toNat:Int))) && (decide ((c1.toNat:Int)≤90)))) || ((c1.toNat:Int) == 95))
def uI (c1:UInt8):Option Bool:=
 some ((decide (48≤(c1.toNat:Int))) && (decide ((c1.toNat:Int)≤57)))
def BL (c1:UInt8):Option Bool:=
 ay (yJ c1) fun x1=>
 if x1 then
  some true
 else
  uI c1
def KF (gq:Str) (jy:Int):Option (aZ × Int × Int):=
 ay (Ao gq jy BL) fun vW=>
 if decide (64 < (dA (vW - jy))) then
  some ((aZ.mk 0 ([]:Str) 0),0,3)
 else
  ay (sl gq jy vW) fun x1=>
  some ((aZ.mk 1 x1 jy),vW,0)
def yK (zZ:Str):Nat→Int→Int→Option Bool
 | 0,_,_=>none
 | bY + 1,n1,i1=>
  if (decide (i1 < (zZ.length:Int))) && (decide (n1≤9007199254740992)) then
   ay (idx zZ i1) fun x1=>
   yK zZ bY (dA ((dA (10 * n1)) + ((x1 - 48).toNat:Int))) (dA (i1 + 1))
  else
   some (decide (9007199254740992 < n1))
def Ir (zZ:Str):Option Bool:=
 yK zZ BIG 0 0
def FR (gq:Str) (jy:Int):Option (aZ × Int × Int):=
 ay (Ao gq jy uI) fun vW=>
 ay (sl gq jy vW) fun text1=>
 ay (
   if decide (1 < (text1.length:Int)) then
    ay (idx text1 0) fun x1=>
    some ((x1.toNat:Int) == 48)
   else
    some false) fun b1=>
 ay (
   if b1 then
    some true
   else
    if decide (vW < (gq.length:Int)) then
     ay (idx gq vW) fun x2=>
     yJ x2
    else
     some false) fun b2=>
 if b2 then
  some ((aZ.mk 0 ([]:Str) 0),0,5)
 else
  ay (Ir text1) fun x4=>
  if x4 then
   some ((aZ.mk 0 ([]:Str) 0),0,2)
  else
   some ((aZ.mk 2 text1 jy),vW,0)
def zH (c1:UInt8):Option Int:=
 ay (uI c1) fun x1=>
 if x1 then
  some ((c1 - 48).toNat:Int)
 else
  if (decide (97≤(c1.toNat:Int))) && (decide ((c1.toNat:Int)≤102)) then
   some (dA (((c1 - 97).toNat:Int) + 10))
  else
   if (decide (65≤(c1.toNat:Int))) && (decide ((c1.toNat:Int)≤70)) then
    some (dA (((c1 - 65).toNat:Int) + 10))
   else
    some (-1)
def El (gq:Str) (jy:Int):Option (UInt8 × Int):=
 if decide ((gq.length:Int)≤(dA (jy + 1))) then
  some (0,0)
 else
  ay (idx gq (dA (jy + 1))) fun c1=>
  if (c1.toNat:Int) == 34 then
   some (c1,2)
  else
   if (c1.toNat:Int) == 92 then
    some (c1,2)
   else
    if (c1.toNat:Int) == 110 then
     some (10,2)
    else
     if (c1.toNat:Int) == 116 then
      some (9,2)
     else
      if (c1.toNat:Int) == 120 then
       ay (
         if decide ((dA (jy + 3)) < (gq.length:Int)) then
          ay (idx gq (dA (jy + 2))) fun x1=>
          ay (zH x1) fun x2=>
          some (decide (0≤x2))
         else
          some false) fun b1=>
       ay (
         if b1 then
          ay (idx gq (dA (jy + 3))) fun x3=>
          ay (zH x3) fun x4=>
          some (decide (0≤x4))
         else
          some false) fun b2=>
       if b2 then
        ay (idx gq (dA (jy + 2))) fun x5=>
        ay (zH x5) fun x6=>
        ay (idx gq (dA (jy + 3))) fun x7=>
        ay (zH x7) fun x8=>
        some ((Ft.byteOf (dA ((dA (16 * x6)) + x8))),4)
       else
        some (0,0)
      else
       some (0,0)
def Iq (gq:Str) (jy:Int):Option Bool:=
 ay (sl gq (dA (jy + 1)) (gq.length:Int)) fun jq=>
 if (jq == ([]:Str)) || (jq == ([120]:Str)) then
  some true
 else
  ay (
    if (jq.length:Int) == 2 then
     ay (idx jq 0) fun x1=>
     some ((x1.toNat:Int) == 120)
    else
     some false) fun b2=>
  if b2 then
   ay (idx jq 1) fun x2=>
   ay (zH x2) fun x3=>
   some (decide (0≤x3))
  else
   some false
def wF (gq:Str) (jy:Int):Nat→Int→Str→Option (aZ × Int × Int)
 | 0,_,_=>none
 | bY + 1,i1,b1=>
  if decide (i1 < (gq.length:Int)) then
   ay (idx gq i1) fun c1=>
   if (c1.toNat:Int) == 34 then
    if decide (4096 < (b1.length:Int)) then
     some ((aZ.mk 0 ([]:Str) 0),0,3)
    else
     some ((aZ.mk 3 b1 jy),(dA (i1 + 1)),0)
   else
    if decide ((c1.toNat:Int) < 32) then
     some ((aZ.mk 0 ([]:Str) 0),0,5)
    else
     if (c1.toNat:Int) == 92 then
      fJ (El gq i1) fun x1 n1=>
      ay (
        if n1 == 0 then
         Iq gq i1
        else
         some false) fun b2=>
      if b2 then
       some ((aZ.mk 0 ([]:Str) 0),0,4)
      else
       if n1 == 0 then
        some ((aZ.mk 0 ([]:Str) 0),0,5)
       else
        ay (app b1 [x1]) fun b3=>
        wF gq jy bY (dA (i1 + n1)) b3
     else
      ay (app b1 [c1]) fun b4=>
      wF gq jy bY (dA (i1 + 1)) b4
  else
   some ((aZ.mk 0 ([]:Str) 0),0,4)
def KE (gq:Str) (jy:Int):Option (aZ × Int × Int):=
 wF gq jy BIG (dA (jy + 1)) []
def qh (gq:Str) (jy:Int):Nat→Int→Option (aZ × Int × Int)
 | 0,_=>none
 | bY + 1,x1=>
  if decide (x1 < (([2,1]:List Int).length:Int)) then
   ay (idx ([2,1]:List Int) x1) fun n1=>
   if decide ((gq.length:Int) < (dA (jy + n1))) then
    qh gq jy bY (dA (x1 + 1))
   else
    ay (sl gq jy (dA (jy + n1))) fun s1=>
    if s1 == ([124,124]:Str) then
     some ((aZ.mk 4 s1 jy),(dA (jy + n1)),0)
    else
     if s1 == ([38,38]:Str) then
      some ((aZ.mk 4 s1 jy),(dA (jy + n1)),0)
     else
      if s1 == ([61,61]:Str) then
       some ((aZ.mk 4 s1 jy),(dA (jy + n1)),0)
      else
       if s1 == ([33,61]:Str) then
        some ((aZ.mk 4 s1 jy),(dA (jy + n1)),0)
       else
        if s1 == ([60,61]:Str) then
         some ((aZ.mk 4 s1 jy),(dA (jy + n1)),0)
        else
         if s1 == ([62,61]:Str) then
          some ((aZ.mk 4 s1 jy),(dA (jy + n1)),0)
         else
          if s1 == ([60]:Str) then
           some ((aZ.mk 4 s1 jy),(dA (jy + n1)),0)
          else
           if s1 == ([62]:Str) then
            some ((aZ.mk 4 s1 jy),(dA (jy + n1)),0)
           else
            if s1 == ([43]:Str) then
             some ((aZ.mk 4 s1 jy),(dA (jy + n1)),0)
            else
             if s1 == ([45]:Str) then
              some ((aZ.mk 4 s1 jy),(dA (jy + n1)),0)
             else
              if s1 == ([42]:Str) then
               some ((aZ.mk 4 s1 jy),(dA (jy + n1)),0)
              else
               if s1 == ([47]:Str) then
                some ((aZ.mk 4 s1 jy),(dA (jy + n1)),0)
               else
                if s1 == ([37]:Str) then
                 some ((aZ.mk 4 s1 jy),(dA (jy + n1)),0)
                else
                 if s1 == ([33]:Str) then
                  some ((aZ.mk 4 s1 jy),(dA (jy + n1)),0)
                 else
                  if s1 == ([63]:Str) then
                   some ((aZ.mk 4 s1 jy),(dA (jy + n1)),0)
                  else
                   if s1 == ([58]:Str) then
                    some ((aZ.mk 4 s1 jy),(dA (jy + n1)),0)
                   else
                    if s1 == ([46]:Str) then
                     some ((aZ.mk 4 s1 jy),(dA (jy + n1)),0)
                    else
                     if s1 == ([44]:Str) then
                      some ((aZ.mk 4 s1 jy),(dA (jy + n1)),0)
                     else
                      if s1 == ([61]:Str) then
                       some ((aZ.mk 4 s1 jy),(dA (jy + n1)),0)
                      else
                       if s1 == ([40]:Str) then
                        some ((aZ.mk 4 s1 jy),(dA (jy + n1)),0)
                       else
                        if s1 == ([41]:Str) then
                         some ((aZ.mk 4 s1 jy),(dA (jy + n1)),0)
                        else
                         if s1 == ([91]:Str) then
                          some ((aZ.mk 4 s1 jy),(dA (jy + n1)),0)
                         else
                          if s1 == ([93]:Str) then
                           some ((aZ.mk 4 s1 jy),(dA (jy + n1)),0)
                          else
                           if s1 == ([123]:Str) then
                            some ((aZ.mk 4 s1 jy),(dA (jy + n1)),0)
                           else
                            if s1 == ([125]:Str) then
                             some ((aZ.mk 4 s1 jy),(dA (jy + n1)),0)
                            else
                             qh gq jy bY (dA (x1 + 1))
  else
   some ((aZ.mk 0 ([]:Str) 0),0,5)
def CP (gq:Str) (jy:Int):Option (aZ × Int × Int):=
 qh gq jy BIG 0
def Ip (gq:Str) (jy:Int):Option (aZ × Int × Int):=
 ay (idx gq jy) fun c1=>
 ay (yJ c1) fun x1=>
 if x1 then
  KF gq jy
 else
  ay (uI c1) fun x5=>
  if x5 then
   FR gq jy
  else
   if (c1.toNat:Int) == 34 then
    KE gq jy
   else
    CP gq jy
def CQ (op1:Str) (ku:Int):Option Int:=
 if op1 == ([40]:Str) then
  some (dA (ku + 1))
 else
  if op1 == ([91]:Str) then
   some (dA (ku + 1))
  else
   if op1 == ([41]:Str) then
    some (if 0 < (dA (ku - 1)) then (dA (ku - 1)) else 0)
   else
    if op1 == ([93]:Str) then
     some (if 0 < (dA (ku - 1)) then (dA (ku - 1)) else 0)
    else
     some ku
def kW (gq:Str):Nat→List aZ→Int→Int→Nat→Option (List aZ × Int × Int)
 | 0,_,_,_,_=>none
 | bY + 1,bg,EP,ku,pos1=>
  if decide (pos1 < gq.length) then
   ay (
     if decide ((pos1:Int) < EP) then
      some true
     else
      CR ((dec gq pos1).1:Int)) fun b1=>
   if b1 then
    kW gq bY bg EP ku (pos1 + (dec gq pos1).2)
   else
    if ((dec gq pos1).1:Int) == 35 then
     ay (Ao gq (pos1:Int) yL) fun aat=>
     kW gq bY bg aat ku (pos1 + (dec gq pos1).2)
    else
     if ((dec gq pos1).1:Int) == 10 then
      ay (
        if ku == 0 then
         if (bg.length:Int) == 0 then
          some true
         else
          ay (idx bg (dA ((bg.length:Int) - 1))) fun e1=>
          some (e1.kind != 5)
        else
         some false) fun b2=>
      if b2 then
       ay (app bg [(aZ.mk 5 ([]:Str) (pos1:Int))]) fun jJ=>
       kW gq bY jJ EP ku (pos1 + (dec gq pos1).2)
      else
       kW gq bY bg EP ku (pos1 + (dec gq pos1).2)
     else
      wL (Ip gq (pos1:Int)) fun x2 vW e2=>
      if e2 != 0 then
       some ([],(pos1:Int),e2)
      else
       if x2.kind == 4 then
        ay (CQ x2.text ku) fun aar=>
        ay (app bg [x2]) fun WH=>
        kW gq bY WH vW aar (pos1 + (dec gq pos1).2)
       else
        ay (app bg [x2]) fun adW=>
        kW gq bY adW vW ku (pos1 + (dec gq pos1).2)
  else
   some (bg,0,0)
def FT (gq:Str):Option (List aZ × Int × Int):=
 if decide (65536 < (gq.length:Int)) then
  some ([],0,3)
 else
  kW gq BIG [] 0 0 0
def tC (s1:Str):Nat→Int→Option Bool
 | 0,_=>none
 | bY + 1,i1=>
  if decide (i1 < (s1.length:Int)) then
   ay (idx s1 i1) fun x2=>
   ay (yE x2) fun x3=>
   if !x3 then
    some false
   else
    tC s1 bY (dA (i1 + 1))
  else
   fJ (strconv_Atoi s1) fun n1 Dt=>
   some ((Dt.isNone) && (decide (n1≤9007199254740992)))
def CJ (s1:Str):Option Bool:=
 ay (
   if s1 == ([]:Str) then
    some true
   else
    if decide (1 < (s1.length:Int)) then
     ay (idx s1 0) fun x1=>
     some ((x1.toNat:Int) == 48)
    else
     some false) fun b1=>
 if b1 then
  some false
 else
  tC s1 BIG 0
def Ih (t1:aZ):Option Bool:=
 if t1.kind == 1 then
  DL t1.text
 else
  if t1.kind == 2 then
   CJ t1.text
  else
   if t1.kind == 3 then
    some (decide ((t1.text.length:Int)≤4096))
   else
    if t1.kind == 4 then
     some true
    else
     some false
def mF (o_:ak):Option (aZ × ak):=
 ay (
   if decide (o_.at_ < (o_.ts.length:Int)) then
    ay (idx o_.ts o_.at_) fun e1=>
    Ih e1
   else
    some false) fun b1=>
 if b1 then
  ay (idx o_.ts o_.at_) fun e2=>
  some (e2,o_)
 else
  some ((aZ.mk 0 ([]:Str) 0),o_)
def zF (o_:ak) (op1:Str):Option (Bool × ak):=
 fJ (mF o_) fun x1 y1=>
 some (((x1.kind == 4) && (x1.text == op1)),y1)
def dX (o_:ak) (op1:Str):Option (Bool × ak):=
 fJ (zF o_ op1) fun x1 y1=>
 if !x1 then
  some (false,y1)
 else
  some (true,(ak.mk y1.ts (dA (y1.at_ + 1))))
def jB (o_:ak) (e1:Int):Option (eX aB Unit × ak):=
 some (.bad (aB.mk o_.at_ e1),o_)
def mG (o_:ak):Option (eX aB aZ × ak):=
 if decide ((o_.ts.length:Int)≤o_.at_) then
  jk (jB o_ 4) (fun e1 y2=>some (.bad e1,y2)) fun _ y1=>
  fJ (mF y1) fun x1 y3=>
  if x1.kind == 0 then
   jk (jB y3 5) (fun e2 y5=>some (.bad e2,y5)) fun _ y4=>
   some (.ok x1,y4)
  else
   some (.ok x1,y3)
 else
  fJ (mF o_) fun x2 y6=>
  if x2.kind == 0 then
   jk (jB y6 5) (fun e3 y8=>some (.bad e3,y8)) fun _ y7=>
   some (.ok x2,y7)
  else
   some (.ok x2,y6)
def qM (v1:ah):Option aj:=
 some (aj.mk 1 ([]:Str) v1 [] [])
def gZ (o_:ak) (op1:Str):Option (eX aB Unit × ak):=
 jk (mG o_) (fun e1 y2=>some (.bad e1,y2)) fun x1 y1=>
 fJ (dX y1 op1) fun x2 y3=>
 if !x2 then
  jk (jB y3 5) (fun e2 y5=>some (.bad e2,y5)) fun _ y4=>
  some (.ok (),y4)
 else
  some (.ok (),y3)
def pK (aH:ak→Option (eX aB aj × ak)) (aL:ak→Int→Option (eX aB aj × ak)) (aR:ak→Option (eX aB aj × ak)) (aT:ak→Option (eX aB aj × ak)) (bC:ak→Option (eX aB aj × ak)) (bB:ak→Str→Option (eX aB aj × ak)) (bq:ak→Str→Option (eX aB (List aj) × ak)) (aU:ak→Option (eX aB aj × ak)) (o_:ak):Option (eX aB aj × ak):=
 jk (aL o_ 2) (fun e1 y2=>some (.bad e1,y2)) fun x1 y1=>
 fJ (dX y1 ([63]:Str)) fun x2 y3=>
 if !x2 then
  some (.ok x1,y3)
 else
  jk (aH y3) (fun e2 y5=>some (.bad e2,y5)) fun x3 y4=>
  jk (gZ y4 ([58]:Str)) (fun e3 y7=>some (.bad e3,y7)) fun _ y6=>
  jk (aH y6) (fun e4 y9=>some (.bad e4,y9)) fun x4 y8=>
  some (.ok (aj.mk 8 ([]:Str) (ah.mk 0 false 0 ([]:Str) [] []) [x1,x3,x4] []),y8)
def lT (aL:ak→Int→Option (eX aB aj × ak)) (n1:Int):Nat→aj→ak→Option (eX aB aj × ak)
 | 0,_,_=>none
 | bY + 1,e3,y5=>
  fJ (mF y5) fun x3 y6=>
  ay (
    if x3.kind != 4 then
     some true
    else
     ay (pU x3.text) fun x4=>
     some (x4 != n1)) fun b1=>
  if b1 then
   some (.ok e3,y6)
  else
   jk (aL (ak.mk y6.ts (dA (y6.at_ + 1))) (dA (n1 + 1))) (fun e4 y8=>some (.bad e4,y8)) fun x5 y7=>
   if n1 == 4 then
    some (.ok (aj.mk 7 x3.text (ah.mk 0 false 0 ([]:Str) [] []) [e3,x5] []),y7)
   else
    lT aL n1 bY (aj.mk 7 x3.text (ah.mk 0 false 0 ([]:Str) [] []) [e3,x5] []) y7
def pJ (aH:ak→Option (eX aB aj × ak)) (aL:ak→Int→Option (eX aB aj × ak)) (aR:ak→Option (eX aB aj × ak)) (aT:ak→Option (eX aB aj × ak)) (bC:ak→Option (eX aB aj × ak)) (bB:ak→Str→Option (eX aB aj × ak)) (bq:ak→Str→Option (eX aB (List aj) × ak)) (aU:ak→Option (eX aB aj × ak)) (o_:ak) (n1:Int):Option (eX aB aj × ak):=
 if n1 == 7 then
  jk (aR o_) (fun e1 y2=>some (.bad e1,y2)) fun x1 y1=>
  some (.ok x1,y1)
 else
  jk (aL o_ (dA (n1 + 1))) (fun e2 y4=>some (.bad e2,y4)) fun x2 y3=>
  lT aL n1 BIG x2 y3
def nV (aR:ak→Option (eX aB aj × ak)) (aT:ak→Option (eX aB aj × ak)):Nat→Int→ak→Option (eX aB aj × ak)
 | 0,_,_=>none
 | bY + 1,x1,y1=>
  if decide (x1 < (([([33]:Str),([45]:Str)]:List Str).length:Int)) then
   ay (idx ([([33]:Str),([45]:Str)]:List Str) x1) fun op1=>
   fJ (dX y1 op1) fun x2 y2=>
   if x2 then
    jk (aR y2) (fun e1 y4=>some (.bad e1,y4)) fun x3 y3=>
    some (.ok (aj.mk 6 op1 (ah.mk 0 false 0 ([]:Str) [] []) [x3] []),y3)
   else
    nV aR aT bY (dA (x1 + 1)) y2
  else
   jk (aT y1) (fun e2 y6=>some (.bad e2,y6)) fun x4 y5=>
   some (.ok x4,y5)
def sU (aH:ak→Option (eX aB aj × ak)) (aL:ak→Int→Option (eX aB aj × ak)) (aR:ak→Option (eX aB aj × ak)) (aT:ak→Option (eX aB aj × ak)) (bC:ak→Option (eX aB aj × ak)) (bB:ak→Str→Option (eX aB aj × ak)) (bq:ak→Str→Option (eX aB (List aj) × ak)) (aU:ak→Option (eX aB aj × ak)) (o_:ak):Option (eX aB aj × ak):=
 nV aR aT BIG 0 o_
def j5 (aH:ak→Option (eX aB aj × ak)):Nat→aj→ak→Option (eX aB aj × ak)
 | 0,_,_=>none
 | bY + 1,e2,y3=>
  fJ (dX y3 ([46]:Str)) fun x2 y4=>
  if x2 then
   jk (mG y4) (fun e3 y6=>some (.bad e3,y6)) fun x3 y5=>
   ay (
     if x3.kind != 1 then
      some true
     else
      Aj x3.text) fun b1=>
   if b1 then
    jk (jB y5 5) (fun e4 y8=>some (.bad e4,y8)) fun _ y7=>
    j5 aH bY (aj.mk 3 x3.text (ah.mk 0 false 0 ([]:Str) [] []) [e2] []) (ak.mk y7.ts (dA (y7.at_ + 1)))
   else
    j5 aH bY (aj.mk 3 x3.text (ah.mk 0 false 0 ([]:Str) [] []) [e2] []) (ak.mk y5.ts (dA (y5.at_ + 1)))
  else
   fJ (dX y4 ([91]:Str)) fun x5 y9=>
   if x5 then
    jk (aH y9) (fun e5 y11=>some (.bad e5,y11)) fun x6 y10=>
    jk (gZ y10 ([93]:Str)) (fun e6 y13=>some (.bad e6,y13)) fun _ y12=>
    j5 aH bY (aj.mk 4 ([]:Str) (ah.mk 0 false 0 ([]:Str) [] []) [e2,x6] []) y12
   else
    some (.ok e2,y9)
def sV (aH:ak→Option (eX aB aj × ak)) (aL:ak→Int→Option (eX aB aj × ak)) (aR:ak→Option (eX aB aj × ak)) (aT:ak→Option (eX aB aj × ak)) (bC:ak→Option (eX aB aj × ak)) (bB:ak→Str→Option (eX aB aj × ak)) (bq:ak→Str→Option (eX aB (List aj) × ak)) (aU:ak→Option (eX aB aj × ak)) (o_:ak):Option (eX aB aj × ak):=
 jk (bC o_) (fun e1 y2=>some (.bad e1,y2)) fun x1 y1=>
 j5 aH BIG x1 y1
def uD (aH:ak→Option (eX aB aj × ak)) (aL:ak→Int→Option (eX aB aj × ak)) (aR:ak→Option (eX aB aj × ak)) (aT:ak→Option (eX aB aj × ak)) (bC:ak→Option (eX aB aj × ak)) (bB:ak→Str→Option (eX aB aj × ak)) (bq:ak→Str→Option (eX aB (List aj) × ak)) (aU:ak→Option (eX aB aj × ak)) (o_:ak):Option (eX aB aj × ak):=
 jk (mG o_) (fun e1 y2=>some (.bad e1,y2)) fun x1 y1=>
 if x1.kind == 2 then
  fJ (strconv_Atoi x1.text) fun n1 x2=>
  ay (qM (ah.mk 2 false n1 ([]:Str) [] [])) fun x3=>
  some (.ok x3,(ak.mk y1.ts (dA (y1.at_ + 1))))
 else
  if x1.kind == 3 then
   ay (qM (ah.mk 3 false 0 x1.text [] [])) fun x4=>
   some (.ok x4,(ak.mk y1.ts (dA (y1.at_ + 1))))
  else
   if x1.kind == 1 then
    jk (bB (ak.mk y1.ts (dA (y1.at_ + 1))) x1.text) (fun e2 y4=>some (.bad e2,y4)) fun x5 y3=>
    some (.ok x5,y3)
   else
    fJ (dX y1 ([40]:Str)) fun x6 y5=>
    if x6 then
     jk (aH y5) (fun e3 y7=>some (.bad e3,y7)) fun x7 y6=>
     jk (gZ y6 ([41]:Str)) (fun e4 y9=>some (.bad e4,y9)) fun _ y8=>
     some (.ok x7,y8)
    else
     fJ (dX y5 ([91]:Str)) fun x8 y10=>
     if x8 then
      jk (bq y10 ([93]:Str)) (fun e5 y12=>some (.bad e5,y12)) fun x9 y11=>
      some (.ok (aj.mk 9 ([]:Str) (ah.mk 0 false 0 ([]:Str) [] []) x9 []),y11)
     else
      fJ (dX y10 ([123]:Str)) fun K3 y13=>
      if K3 then
       jk (aU y13) (fun e6 y15=>some (.bad e6,y15)) fun Nq y14=>
       some (.ok Nq,y14)
      else
       jk (jB y13 5) (fun e7 y17=>some (.bad e7,y17)) fun _ y16=>
       some (.ok (aj.mk 0 ([]:Str) (ah.mk 0 false 0 ([]:Str) [] []) [] []),y16)
def uz (aH:ak→Option (eX aB aj × ak)) (aL:ak→Int→Option (eX aB aj × ak)) (aR:ak→Option (eX aB aj × ak)) (aT:ak→Option (eX aB aj × ak)) (bC:ak→Option (eX aB aj × ak)) (bB:ak→Str→Option (eX aB aj × ak)) (bq:ak→Str→Option (eX aB (List aj) × ak)) (aU:ak→Option (eX aB aj × ak)) (o_:ak) (s1:Str):Option (eX aB aj × ak):=
 if s1 == ([110,117,108,108]:Str) then
  ay (qM (ah.mk 0 false 0 ([]:Str) [] [])) fun x1=>
  some (.ok x1,o_)
 else
  ay (Aj s1) fun x2=>
  if x2 then
   ay (qM (ah.mk 1 (s1 == ([116,114,117,101]:Str)) 0 ([]:Str) [] [])) fun x3=>
   some (.ok x3,o_)
  else
   fJ (dX o_ ([40]:Str)) fun x4 y1=>
   if x4 then
    jk (bq y1 ([41]:Str)) (fun e1 y3=>some (.bad e1,y3)) fun x5 y2=>
    some (.ok (aj.mk 5 s1 (ah.mk 0 false 0 ([]:Str) [] []) x5 []),y2)
   else
    some (.ok (aj.mk 2 s1 (ah.mk 0 false 0 ([]:Str) [] []) [] []),y1)
def o7 (aH:ak→Option (eX aB aj × ak)) (vW:Str):Nat→List aj→ak→Option (eX aB (List aj) × ak)
 | 0,_,_=>none
 | bY + 1,bg,y2=>
  jk (aH y2) (fun e1 y4=>some (.bad e1,y4)) fun x2 y3=>
  ay (app bg [x2]) fun jJ=>
  fJ (dX y3 ([44]:Str)) fun x3 y5=>
  if !x3 then
   jk (gZ y5 vW) (fun e2 y7=>some (.bad e2,y7)) fun _ y6=>
   some (.ok jJ,y6)
  else
   o7 aH vW bY jJ y5
def uE (aH:ak→Option (eX aB aj × ak)) (aL:ak→Int→Option (eX aB aj × ak)) (aR:ak→Option (eX aB aj × ak)) (aT:ak→Option (eX aB aj × ak)) (bC:ak→Option (eX aB aj × ak)) (bB:ak→Str→Option (eX aB aj × ak)) (bq:ak→Str→Option (eX aB (List aj) × ak)) (aU:ak→Option (eX aB aj × ak)) (o_:ak) (vW:Str):Option (eX aB (List aj) × ak):=
 fJ (dX o_ vW) fun x1 y1=>
 if x1 then
  some (.ok [],y1)
 else
  o7 aH vW BIG [] y1
def kL (aH:ak→Option (eX aB aj × ak)):Nat→aj→ak→Option (eX aB aj × ak)
 | 0,_,_=>none
 | bY + 1,bg,y2=>
  jk (mG y2) (fun e1 y4=>some (.bad e1,y4)) fun x2 y3=>
  if (x2.kind != 1) && (x2.kind != 3) then
   jk (jB y3 5) (fun e2 y6=>some (.bad e2,y6)) fun _ y5=>
   jk (gZ (ak.mk y5.ts (dA (y5.at_ + 1))) ([58]:Str)) (fun e3 y8=>some (.bad e3,y8)) fun _ y7=>
   ay (app bg.keys ([x2.text]:List Str)) fun x3=>
   jk (aH y7) (fun e4 y10=>some (.bad e4,y10)) fun x4 y9=>
   ay (app bg.args [x4]) fun x5=>
   fJ (dX y9 ([44]:Str)) fun x6 y11=>
   if !x6 then
    jk (gZ y11 ([125]:Str)) (fun e5 y13=>some (.bad e5,y13)) fun _ y12=>
    some (.ok (aj.mk bg.kind bg.name bg.value x5 x3),y12)
   else
    kL aH bY (aj.mk bg.kind bg.name bg.value x5 x3) y11
  else
   jk (gZ (ak.mk y3.ts (dA (y3.at_ + 1))) ([58]:Str)) (fun e6 y15=>some (.bad e6,y15)) fun _ y14=>
   ay (app bg.keys ([x2.text]:List Str)) fun x7=>
   jk (aH y14) (fun e7 y17=>some (.bad e7,y17)) fun x8 y16=>
   ay (app bg.args [x8]) fun x9=>
   fJ (dX y16 ([44]:Str)) fun K3 y18=>
   if !K3 then
    jk (gZ y18 ([125]:Str)) (fun e8 y20=>some (.bad e8,y20)) fun _ y19=>
    some (.ok (aj.mk bg.kind bg.name bg.value x9 x7),y19)
   else
    kL aH bY (aj.mk bg.kind bg.name bg.value x9 x7) y18
def qL (aH:ak→Option (eX aB aj × ak)) (aL:ak→Int→Option (eX aB aj × ak)) (aR:ak→Option (eX aB aj × ak)) (aT:ak→Option (eX aB aj × ak)) (bC:ak→Option (eX aB aj × ak)) (bB:ak→Str→Option (eX aB aj × ak)) (bq:ak→Str→Option (eX aB (List aj) × ak)) (aU:ak→Option (eX aB aj × ak)) (o_:ak):Option (eX aB aj × ak):=
 fJ (dX o_ ([125]:Str)) fun x1 y1=>
 if x1 then
  some (.ok (aj.mk 10 ([]:Str) (ah.mk 0 false 0 ([]:Str) [] []) [] []),y1)
 else
  kL aH BIG (aj.mk 10 ([]:Str) (ah.mk 0 false 0 ([]:Str) [] []) [] []) y1
mutual
def bW :Nat→ak→Option (eX aB aj × ak)
 | 0,_=>none
 | k + 1,gP=>pK (bW k) (bV k) (dh k) (dn k) (dF k) (dD k) (dG k) (cu k) gP
def bV :Nat→ak→Int→Option (eX aB aj × ak)
 | 0,_,_=>none
 | k + 1,gP,Za=>pJ (bW k) (bV k) (dh k) (dn k) (dF k) (dD k) (dG k) (cu k) gP Za
def dh :Nat→ak→Option (eX aB aj × ak)
 | 0,_=>none
 | k + 1,gP=>sU (bW k) (bV k) (dh k) (dn k) (dF k) (dD k) (dG k) (cu k) gP
def dn :Nat→ak→Option (eX aB aj × ak)
 | 0,_=>none
 | k + 1,gP=>sV (bW k) (bV k) (dh k) (dn k) (dF k) (dD k) (dG k) (cu k) gP
def dF :Nat→ak→Option (eX aB aj × ak)
 | 0,_=>none
 | k + 1,gP=>uD (bW k) (bV k) (dh k) (dn k) (dF k) (dD k) (dG k) (cu k) gP
def dD :Nat→ak→Str→Option (eX aB aj × ak)
 | 0,_,_=>none
 | k + 1,gP,rH=>uz (bW k) (bV k) (dh k) (dn k) (dF k) (dD k) (dG k) (cu k) gP rH
def dG :Nat→ak→Str→Option (eX aB (List aj) × ak)
 | 0,_,_=>none
 | k + 1,gP,Gq=>uE (bW k) (bV k) (dh k) (dn k) (dF k) (dD k) (dG k) (cu k) gP Gq
def cu :Nat→ak→Option (eX aB aj × ak)
 | 0,_=>none
 | k + 1,gP=>qL (bW k) (bV k) (dh k) (dn k) (dF k) (dD k) (dG k) (cu k) gP
end
def xM (gP:ak):Option (eX aB aj × ak):=bW BIG gP
def EN (gP:ak) (Za:Int):Option (eX aB aj × ak):=bV BIG gP Za
def JK (gP:ak):Option (eX aB aj × ak):=dh BIG gP
def JL (gP:ak):Option (eX aB aj × ak):=dn BIG gP
def KA (gP:ak):Option (eX aB aj × ak):=dF BIG gP
def Kz (gP:ak) (rH:Str):Option (eX aB aj × ak):=dD BIG gP rH
def KC (gP:ak) (Gq:Str):Option (eX aB (List aj) × ak):=dG BIG gP Gq
def GY (gP:ak):Option (eX aB aj × ak):=cu BIG gP
def Ii (Dm:List aZ):Option (aj × Int × Int):=
 jk (xM (ak.mk Dm 0)) (fun f1 _=>some ((aj.mk 0 ([]:Str) (ah.mk 0 false 0 ([]:Str) [] []) [] []),f1.at_,f1.code)) fun e1 r1=>
 some (e1,r1.at_,0)
def Ik (Dm:List aZ):Option (aj × Int × Int):=
 wL (Ii Dm) fun x1 n1 uT=>
 if uT != 0 then
  some ((aj.mk 0 ([]:Str) (ah.mk 0 false 0 ([]:Str) [] []) [] []),n1,uT)
 else
  ay (qd x1) fun II=>
  if II != 0 then
   some ((aj.mk 0 ([]:Str) (ah.mk 0 false 0 ([]:Str) [] []) [] []),0,II)
  else
   some (x1,n1,0)
def FC (Dm:List aZ) (n1:Int) (gq:Str):Option Int:=
 if decide (n1 < (Dm.length:Int)) then
  ay (idx Dm n1) fun e1=>
  some e1.at_
 else
  some (gq.length:Int)
def FL (gq:Str):Option (aj × Int × Int):=
 wL (FT gq) fun Dm jy uT=>
 if uT != 0 then
  some ((aj.mk 0 ([]:Str) (ah.mk 0 false 0 ([]:Str) [] []) [] []),jy,uT)
 else
  wL (Ik Dm) fun x1 n1 II=>
  if II != 0 then
   ay (FC Dm n1 gq) fun x2=>
   some ((aj.mk 0 ([]:Str) (ah.mk 0 false 0 ([]:Str) [] []) [] []),x2,II)
  else
   if decide (n1 < (Dm.length:Int)) then
    ay (idx Dm n1) fun e1=>
    some ((aj.mk 0 ([]:Str) (ah.mk 0 false 0 ([]:Str) [] []) [] []),e1.at_,5)
   else
    some (x1,0,0)
def qj (lG:List bf) (text1:Str):Option (List bf):=
 if decide (0 < (text1.length:Int)) then app lG [(bf.mk text1 false (aj.mk 0 ([]:Str) (ah.mk 0 false 0 ([]:Str) [] []) [] []))] else some lG
def pV (s1:Str):Nat→Int→List bf→Str→Option (List bf × Int × Int)
 | 0,_,_,_=>none
 | bY + 1,jy,lG,text1=>
  if decide (jy < (s1.length:Int)) then
   ay (sl s1 jy (s1.length:Int)) fun jq=>
   ay (strings_HasPrefix jq ([36,36]:Str)) fun b1=>
   if b1 then
    ay (app text1 [36]) fun ZL=>
    pV s1 bY (dA (jy + 2)) lG ZL
   else
    ay (strings_HasPrefix jq ([36,123]:Str)) fun b2=>
    if b2 then
     ay (CS s1 (dA (jy + 2))) fun vW=>
     if decide (vW < 0) then
      some ([],jy,4)
     else
      ay (sl s1 (dA (jy + 2)) vW) fun x1=>
      wL (FL x1) fun e1 n1 uT=>
      if uT != 0 then
       some ([],(dA ((dA (jy + 2)) + n1)),uT)
      else
       ay (qj lG text1) fun XR=>
       ay (app XR [(bf.mk ([]:Str) true e1)]) fun TG=>
       pV s1 bY (dA (vW + 1)) TG []
    else
     ay (idx s1 jy) fun c1=>
     ay (app text1 [c1]) fun ZK=>
     pV s1 bY (dA (jy + 1)) lG ZK
  else
   ay (qj lG text1) fun XQ=>
   some (XQ,0,0)
def vw (s1:Str):Option (List bf × Int × Int):=
 if decide (4096 < (s1.length:Int)) then
  some ([],0,3)
 else
  pV s1 BIG 0 [] []
def iK (s1:List aj) (f1:aj→Option Bool):Nat→Int→Option Int
 | 0,_=>none
 | bY + 1,i1=>
  if decide (i1 < (s1.length:Int)) then
   ay (idx s1 i1) fun e1=>
   ay (f1 e1) fun x1=>
   if x1 then
    some i1
   else
    iK s1 f1 bY (dA (i1 + 1))
  else
   some (-1)
def kD (s1:List aj) (f1:aj→Option Bool):Option Int:=
 iK s1 f1 BIG 0
def jK (s1:List aj) (f1:aj→Option Bool):Option Bool:=
 ay (kD s1 f1) fun x1=>
 some (decide (0≤x1))
def h_ (s1:List bf) (f1:bf→Option Bool):Nat→Int→Option Int
 | 0,_=>none
 | bY + 1,i1=>
  if decide (i1 < (s1.length:Int)) then
   ay (idx s1 i1) fun e1=>
   ay (f1 e1) fun x1=>
   if x1 then
    some i1
   else
    h_ s1 f1 bY (dA (i1 + 1))
  else
   some (-1)
def jP (s1:List bf) (f1:bf→Option Bool):Option Int:=
 h_ s1 f1 BIG 0
def jF (s1:List bf) (f1:bf→Option Bool):Option Bool:=
 ay (jP s1 f1) fun x1=>
 some (decide (0≤x1))
def AZ (eY:List bf→List aA→Option Bool) (dR:bf→List aA→Option Bool) (eB:aj→List aA→Option Bool) (dM:aj→List aA→Option Bool) (ps1:List bf) (dK:List aA):Option Bool:=
 jF ps1 (fun z0=>dR z0 dK)
def xZ (eY:List bf→List aA→Option Bool) (dR:bf→List aA→Option Bool) (eB:aj→List aA→Option Bool) (dM:aj→List aA→Option Bool) (p1:bf) (c1:List aA):Option Bool:=
 if p1.is_ then
  eB p1.expr c1
 else
  some false
def zx (eY:List bf→List aA→Option Bool) (dR:bf→List aA→Option Bool) (eB:aj→List aA→Option Bool) (dM:aj→List aA→Option Bool) (e1:aj) (dK:List aA):Option Bool:=
 if e1.kind == 2 then
  fJ (n_ dK e1.name) fun x1 is1=>
  some is1
 else
  if (e1.kind == 1) && (e1.value.kind == 3) then
   wL (vw e1.value.gW) fun ps1 x2 Dt=>
   if Dt == 0 then
    eY ps1 dK
   else
    some false
  else
   jK e1.args (fun z0=>dM z0 dK)
def xg (eY:List bf→List aA→Option Bool) (dR:bf→List aA→Option Bool) (eB:aj→List aA→Option Bool) (dM:aj→List aA→Option Bool) (a1:aj) (c1:List aA):Option Bool:=
 eB a1 c1
mutual
def jE :Nat→List bf→List aA→Option Bool
 | 0,_,_=>none
 | k + 1,Ob,jD=>AZ (jE k) (iM k) (jg k) (iw k) Ob jD
def iM :Nat→bf→List aA→Option Bool
 | 0,_,_=>none
 | k + 1,lI,Oc=>xZ (jE k) (iM k) (jg k) (iw k) lI Oc
def jg :Nat→aj→List aA→Option Bool
 | 0,_,_=>none
 | k + 1,jT,jD=>zx (jE k) (iM k) (jg k) (iw k) jT jD
def iw :Nat→aj→List aA→Option Bool
 | 0,_,_=>none
 | k + 1,pQ,Oc=>xg (jE k) (iM k) (jg k) (iw k) pQ Oc
end
def J4 (Ob:List bf) (jD:List aA):Option Bool:=jE BIG Ob jD
def Od (lI:bf) (Oc:List aA):Option Bool:=iM BIG lI Oc
def Pg (jT:aj) (jD:List aA):Option Bool:=jg BIG jT jD
def MI (pQ:aj) (Oc:List aA):Option Bool:=iw BIG pQ Oc
def Kv (v1:ah):Option Str:=
 ay (l5 v1) fun x1=>
 if x1 != 0 then
  some ([]:Str)
 else
  D8 v1
def FH (e1:aj):Option Int:=
 if e1.kind == 8 then
  some 1
 else
  if e1.kind == 7 then
   pU e1.name
  else
   if e1.kind == 6 then
    some 7
   else
    if ((e1.kind == 1) && (e1.value.kind == 2)) && (decide (e1.value.iC < 0)) then
     some 7
    else
     some 8
def mY (s1:Str):Nat→Int→Str→Option Str
 | 0,_,_=>none
 | bY + 1,i1,b2=>
  if decide (i1 < (s1.length:Int)) then
   ay (idx s1 i1) fun c1=>
   if ((c1.toNat:Int) == 34) || ((c1.toNat:Int) == 92) then
    ay (sl s1 i1 (dA (i1 + 1))) fun x1=>
    ay (app ([92]:Str) x1) fun x2=>
    ay (app b2 x2) fun b3=>
    mY s1 bY (dA (i1 + 1)) b3
   else
    if (c1.toNat:Int) == 10 then
     ay (app b2 ([92,110]:Str)) fun b4=>
     mY s1 bY (dA (i1 + 1)) b4
    else
     if (c1.toNat:Int) == 9 then
      ay (app b2 ([92,116]:Str)) fun b5=>
      mY s1 bY (dA (i1 + 1)) b5
     else
      if (decide ((c1.toNat:Int) < 32)) || (decide (126 < (c1.toNat:Int))) then
       ay (sl ([48,49,50,51,52,53,54,55,56,57,97,98,99,100,101,102]:Str) ((c1 / 16).toNat:Int) (((c1 / 16) + 1).toNat:Int)) fun x3=>
       ay (app ([92,120]:Str) x3) fun x4=>
       ay (sl ([48,49,50,51,52,53,54,55,56,57,97,98,99,100,101,102]:Str) ((c1 % 16).toNat:Int) (((c1 % 16) + 1).toNat:Int)) fun x5=>
       ay (app x4 x5) fun x6=>
       ay (app b2 x6) fun b6=>
       mY s1 bY (dA (i1 + 1)) b6
      else
       ay (app b2 [c1]) fun b7=>
       mY s1 bY (dA (i1 + 1)) b7
  else
   app b2 [34]
def Iu (s1:Str):Option Str:=
 ay (app [] [34]) fun b1=>
 mY s1 BIG 0 b1
def Bb (gy:aj→Option Str) (dL:aj→Int→Option Str) (gU:aj→Option Str) (e1:aj):Option Str:=
 if e1.kind == 1 then
  Kv e1.value
 else
  if e1.kind == 2 then
   some e1.name
  else
   if e1.kind == 3 then
    ay (idx e1.args 0) fun e2=>
    ay (dL e2 8) fun x2=>
    ay (app x2 ([46]:Str)) fun x3=>
    app x3 e1.name
   else
    if e1.kind == 4 then
     ay (idx e1.args 0) fun e3=>
     ay (dL e3 8) fun x5=>
     ay (app x5 ([91]:Str)) fun x6=>
     ay (idx e1.args 1) fun e4=>
     ay (dL e4 1) fun x7=>
     ay (app x6 x7) fun x8=>
     app x8 ([93]:Str)
    else
     if e1.kind == 5 then
      ay (app e1.name ([40]:Str)) fun K3=>
      ay (gU e1) fun Nq=>
      ay (app K3 Nq) fun UE=>
      app UE ([41]:Str)
     else
      if e1.kind == 6 then
       ay (idx e1.args 0) fun e5=>
       ay (dL e5 7) fun Y_=>
       app e1.name Y_
      else
       if e1.kind == 7 then
        ay (pU e1.name) fun n1=>
        if n1 == 4 then
         ay (idx e1.args 0) fun e6=>
         ay (dL e6 (dA (n1 + 1))) fun Yj=>
         ay (app Yj ([32]:Str)) fun Y9=>
         ay (app Y9 e1.name) fun x18=>
         ay (app x18 ([32]:Str)) fun x19=>
         ay (idx e1.args 1) fun e7=>
         ay (dL e7 (dA (n1 + 1))) fun x20=>
         app x19 x20
        else
         ay (idx e1.args 0) fun e8=>
         ay (dL e8 n1) fun x22=>
         ay (app x22 ([32]:Str)) fun x23=>
         ay (app x23 e1.name) fun x24=>
         ay (app x24 ([32]:Str)) fun x25=>
         ay (idx e1.args 1) fun e9=>
         ay (dL e9 (dA (n1 + 1))) fun x26=>
         app x25 x26
       else
        if e1.kind == 8 then
         ay (idx e1.args 0) fun e10=>
         ay (dL e10 2) fun x28=>
         ay (app x28 ([32,63,32]:Str)) fun x29=>
         ay (idx e1.args 1) fun e11=>
         ay (dL e11 1) fun x30=>
         ay (app x29 x30) fun x31=>
         ay (app x31 ([32,58,32]:Str)) fun x32=>
         ay (idx e1.args 2) fun e12=>
         ay (dL e12 1) fun x33=>
         app x32 x33
        else
         if e1.kind == 9 then
          ay (gU e1) fun x35=>
          ay (app ([91]:Str) x35) fun x36=>
          app x36 ([93]:Str)
         else
          ay (gU e1) fun x38=>
          ay (app ([123]:Str) x38) fun x39=>
          app x39 ([125]:Str)
def FJ (gy:aj→Option Str) (dL:aj→Int→Option Str) (gU:aj→Option Str) (e1:aj) (Jt:Int):Option Str:=
 ay (FH e1) fun x1=>
 if decide (x1 < Jt) then
  ay (gy e1) fun x2=>
  ay (app ([40]:Str) x2) fun x3=>
  app x3 ([41]:Str)
 else
  gy e1
def uF (dL:aj→Int→Option Str) (e1:aj):Nat→List Str→Int→Option Str
 | 0,_,_=>none
 | bY + 1,nM,i1=>
  if decide (i1 < (e1.args.length:Int)) then
   ay (idx e1.args i1) fun e2=>
   ay (dL e2 1) fun s1=>
   if e1.kind == 10 then
    ay (idx e1.keys i1) fun e3=>
    ay (Iu e3) fun x1=>
    ay (app x1 ([58,32]:Str)) fun x2=>
    ay (app x2 s1) fun s2=>
    ay (app nM ([s2]:List Str)) fun Ky=>
    uF dL e1 bY Ky (dA (i1 + 1))
   else
    ay (app nM ([s1]:List Str)) fun Kw=>
    uF dL e1 bY Kw (dA (i1 + 1))
  else
   strings_Join nM ([44,32]:Str)
def Eh (gy:aj→Option Str) (dL:aj→Int→Option Str) (gU:aj→Option Str) (e1:aj):Option Str:=
 uF dL e1 BIG [] 0
mutual
def kV :Nat→aj→Option Str
 | 0,_=>none
 | k + 1,jT=>Bb (kV k) (nW k) (mQ k) jT
def nW :Nat→aj→Int→Option Str
 | 0,_,_=>none
 | k + 1,jT,nI=>FJ (kV k) (nW k) (mQ k) jT nI
def mQ :Nat→aj→Option Str
 | 0,_=>none
 | k + 1,jT=>Eh (kV k) (nW k) (mQ k) jT
end
def J6 (jT:aj):Option Str:=kV BIG jT
def WE (jT:aj) (nI:Int):Option Str:=nW BIG jT nI
def U8 (jT:aj):Option Str:=mQ BIG jT
def DN (e1:aj):Option Str:=
 ay (qd e1) fun x1=>
 if x1 != 0 then
  some ([]:Str)
 else
  J6 e1
def strings_ReplaceAll (s1:Str) (abQ:Str) (new1:Str):Option Str:=
 if s1.length < 4294967281∧abQ=[36]∧new1=[36,36] then some (s1.flatMap fun x=>if x == 36 then [36,36] else [x]) else none
def uJ (ps1:List bf):Nat→Int→Str→Option Str
 | 0,_,_=>none
 | bY + 1,x1,b1=>
  if decide (x1 < (ps1.length:Int)) then
   ay (idx ps1 x1) fun e1=>
   if e1.is_ then
    ay (DN e1.expr) fun x2=>
    ay (app ([36,123]:Str) x2) fun x3=>
    ay (app x3 ([125]:Str)) fun x4=>
    ay (app b1 x4) fun b2=>
    uJ ps1 bY (dA (x1 + 1)) b2
   else
    ay (strings_ReplaceAll e1.text ([36]:Str) ([36,36]:Str)) fun x5=>
    ay (app b1 x5) fun b3=>
    uJ ps1 bY (dA (x1 + 1)) b3
  else
   some b1
def Iw (ps1:List bf):Option Str:=
 uJ ps1 BIG 0 []
def mW (go:aj→List aA→Option (aj × Bool × Int)) (dK:List aA) (n1:Int):Nat→List bf→Int→Option (List bf × Int)
 | 0,_,_=>none
 | bY + 1,l1,i1=>
  if decide (i1 < n1) then
   ay (idx l1 i1) fun p1=>
   if !p1.is_ then
    mW go dK n1 bY l1 (dA (i1 + 1))
   else
    fJ (vg p1.expr (fun z0=>go z0 dK)) fun x3 Dt=>
    if Dt != 0 then
     some ([],Dt)
    else
     mW go dK n1 bY (l1.set i1.toNat (bf.mk p1.text p1.is_ x3)) (dA (i1 + 1))
  else
   some (l1,0)
def vT (go:aj→List aA→Option (aj × Bool × Int)) (e1:aj) (dK:List aA):Option (aj × Bool × Int):=
 fJ (n_ dK e1.name) fun v1 is1=>
 if is1 && (e1.kind == 2) then
  ay (mD v1) fun x1=>
  some ((aj.mk 1 ([]:Str) x1 [] []),true,0)
 else
  if (e1.kind != 1) || (e1.value.kind != 3) then
   some ((aj.mk 0 ([]:Str) (ah.mk 0 false 0 ([]:Str) [] []) [] []),false,0)
  else
   wL (vw e1.value.gW) fun ps1 x2 Dt=>
   ay (if Dt != 0 then some true else ay (J4 ps1 dK) fun u1=>some (!u1)) fun b1=>
   if b1 then
    some ((aj.mk 0 ([]:Str) (ah.mk 0 false 0 ([]:Str) [] []) [] []),false,0)
   else
    fJ (mW go dK (ps1.length:Int) BIG ps1 0) fun ps2 TY=>
    if TY != 0 then
     some ((aj.mk 0 ([]:Str) (ah.mk 0 false 0 ([]:Str) [] []) [] []),false,TY)
    else
     ay (Iw ps2) fun s1=>
     if decide (4096 < (s1.length:Int)) then
      some ((aj.mk 0 ([]:Str) (ah.mk 0 false 0 ([]:Str) [] []) [] []),false,3)
     else
      some ((aj.mk 1 ([]:Str) (ah.mk 3 false 0 s1 [] []) [] []),true,0)
def lX :Nat→aj→List aA→Option (aj × Bool × Int)
 | 0,_,_=>none
 | k + 1,e1,dK=>vT (lX k) e1 dK
def XE (e1:aj) (dK:List aA):Option (aj × Bool × Int):=lX BIG e1 dK
def A8 (e1:aj) (dK:List aA):Option (aj × Int):=vg e1 (fun z0=>lX BIG z0 dK)
def Bg (p1:bf) (mZ:List aA):Option (Str × Int):=
 if !p1.is_ then
  some (p1.text,0)
 else
  fJ (EX p1.expr mZ) fun x1 uT=>
  if uT != 0 then
   some (([]:Str),uT)
  else
   Fq x1
def vB (mZ:List aA) (ps1:List bf):Nat→Int→Str→Option (Str × Int)
 | 0,_,_=>none
 | bY + 1,x2,b1=>
  if decide (x2 < (ps1.length:Int)) then
   ay (idx ps1 x2) fun e1=>
   fJ (Bg e1 mZ) fun t1 aaN=>
   if aaN != 0 then
    some (([]:Str),aaN)
   else
    ay (app b1 t1) fun b2=>
    vB mZ ps1 bY (dA (x2 + 1)) b2
  else
   if decide (4096 < (b1.length:Int)) then
    some (([]:Str),3)
   else
    some (b1,0)
def Eo (s1:Str) (mZ:List aA):Option (Str × Int):=
 wL (vw s1) fun ps1 x1 uT=>
 if uT != 0 then
  some (([]:Str),uT)
 else
  ay (EY mZ) fun II=>
  if II != 0 then
   some (([]:Str),II)
  else
   vB mZ ps1 BIG 0 []
def ni (dU:au→List aA→Option (au × Int)) (b1:au) (dK:List aA):Nat→Int→au→Option (au × Int)
 | 0,_,_=>none
 | ED + 1,x4,jJ=>
  if decide (x4 < (b1.blocks.length:Int)) then
   ay (idx b1.blocks x4) fun e3=>
   fJ (Eo e3.name dK) fun name1 e4=>
   if e4 != 0 then
    some ((au.mk ([]:Str) ([]:Str) [] []),e4)
   else
    fJ (dU (au.mk e3.kind name1 e3.attrs e3.blocks) dK) fun x5 e5=>
    if e5 != 0 then
     some ((au.mk ([]:Str) ([]:Str) [] []),e5)
    else
     ay (app jJ.blocks [x5]) fun x6=>
     ni dU b1 dK ED (dA (x4 + 1)) (au.mk jJ.kind jJ.name jJ.attrs x6)
  else
   some (jJ,0)
def nk (dU:au→List aA→Option (au × Int)) (b1:au) (dK:List aA):Nat→Int→au→Option (au × Int)
 | 0,_,_=>none
 | bY + 1,x1,bg=>
  if decide (x1 < (b1.attrs.length:Int)) then
   ay (idx b1.attrs x1) fun e1=>
   fJ (A8 e1.expr dK) fun x2 e2=>
   if e2 != 0 then
    some ((au.mk ([]:Str) ([]:Str) [] []),e2)
   else
    ay (app bg.attrs [(aS.mk e1.name x2)]) fun x3=>
    nk dU b1 dK bY (dA (x1 + 1)) (au.mk bg.kind bg.name x3 bg.blocks)
  else
   ni dU b1 dK BIG 0 bg
def rM (dU:au→List aA→Option (au × Int)) (b1:au) (dK:List aA):Option (au × Int):=
 nk dU b1 dK BIG 0 (au.mk b1.kind b1.name [] [])
def lQ :Nat→au→List aA→Option (au × Int)
 | 0,_,_=>none
 | k + 1,l6,jD=>rM (lQ k) l6 jD
def Af (l6:au) (jD:List aA):Option (au × Int):=lQ BIG l6 jD
def lF (x3:Int) (x7:au) (y3:aJ) (qR:Int→au→aJ→Option (au × Int × aJ)):Nat→Int→au→Option (au × Int × aJ)
 | 0,_,_=>none
 | ED + 1,x9,jJ=>
  if decide (x9 < (x7.attrs.length:Int)) then
   ay (idx x7.attrs x9) fun e2=>
   fJ (Ar jJ e2.name) fun K3 Pe=>
   if Pe then
    some ((au.mk ([]:Str) ([]:Str) [] []),7,y3)
   else
    ay (app jJ.attrs [e2]) fun Nq=>
    lF x3 x7 y3 qR ED (dA (x9 + 1)) (au.mk jJ.kind jJ.name Nq jJ.blocks)
  else
   ay (app jJ.blocks x7.blocks) fun UE=>
   qR (dA (x3 + 1)) (au.mk jJ.kind jJ.name jJ.attrs UE) y3
def iW (bM:aJ→au→Int→Option (au × Int × aJ)) (bZ:aJ→au→Int→Option (au × Int × aJ)) (b1:au) (nO:Int):Nat→Int→au→aJ→Option (au × Int × aJ)
 | 0,_,_,_=>none
 | bY + 1,x3,bg,y1=>
  if decide (x3 < (b1.blocks.length:Int)) then
   ay (idx b1.blocks x3) fun e1=>
   if !(e1.kind == ([117,115,101]:Str)) then
    wL (bM y1 e1 nO) fun x4 x5 y2=>
    if x5 != 0 then
     some ((au.mk ([]:Str) ([]:Str) [] []),x5,y2)
    else
     ay (app bg.blocks [x4]) fun x6=>
     iW bM bZ b1 nO bY (dA (x3 + 1)) (au.mk bg.kind bg.name bg.attrs x6) y2
   else
    wL (bZ y1 e1 nO) fun x7 x8 y3=>
    if x8 != 0 then
     some ((au.mk ([]:Str) ([]:Str) [] []),x8,y3)
    else
     lF x3 x7 y3 (iW bM bZ b1 nO bY) BIG 0 bg
  else
   some (bg,0,y1)
def oJ (bM:aJ→au→Int→Option (au × Int × aJ)) (bZ:aJ→au→Int→Option (au × Int × aJ)) (x1:aJ) (b1:au) (nO:Int):Option (au × Int × aJ):=
 ay (mE b1.attrs) fun x2=>
 iW bM bZ b1 nO BIG 0 (au.mk b1.kind b1.name x2 []) x1
def kU (bM:aJ→au→Int→Option (au × Int × aJ)) (x1:aJ) (Hy:au) (nO:Int) (zo:Int):Nat→List aA→Int→Option (au × Int × aJ)
 | 0,_,_=>none
 | bY + 1,args1,x2=>
  if decide (x2 < (Hy.attrs.length:Int)) then
   ay (idx Hy.attrs x2) fun e1=>
   fJ (EX e1.expr x1.env) fun x3 e2=>
   if e2 != 0 then
    some ((au.mk ([]:Str) ([]:Str) [] []),e2,(aJ.mk x1.templates x1.env (dA (x1.uses + 1))))
   else
    ay (app args1 [(aA.mk e1.name x3)]) fun args2=>
    kU bM x1 Hy nO zo bY args2 (dA (x2 + 1))
  else
   ay (idx x1.templates zo) fun e3=>
   fJ (sK e3.params args1) fun dK e4=>
   if e4 != 0 then
    some ((au.mk ([]:Str) ([]:Str) [] []),e4,(aJ.mk x1.templates x1.env (dA (x1.uses + 1))))
   else
    ay (idx x1.templates zo) fun e5=>
    fJ (Af e5.body dK) fun x4 e6=>
    if e6 != 0 then
     some ((au.mk ([]:Str) ([]:Str) [] []),e6,(aJ.mk x1.templates x1.env (dA (x1.uses + 1))))
    else
     bM (aJ.mk x1.templates x1.env (dA (x1.uses + 1))) x4 (dA (nO + 1))
def nU (bM:aJ→au→Int→Option (au × Int × aJ)) (bZ:aJ→au→Int→Option (au × Int × aJ)) (x1:aJ) (Hy:au) (nO:Int):Option (au × Int × aJ):=
 ay (gG x1.templates (fun z0=>lD z0 Hy)) fun zo=>
 if decide (0 < (Hy.blocks.length:Int)) then
  some ((au.mk ([]:Str) ([]:Str) [] []),1,(aJ.mk x1.templates x1.env (dA (x1.uses + 1))))
 else
  if decide (zo < 0) then
   some ((au.mk ([]:Str) ([]:Str) [] []),8,(aJ.mk x1.templates x1.env (dA (x1.uses + 1))))
  else
   if decide (16≤nO) then
    some ((au.mk ([]:Str) ([]:Str) [] []),13,(aJ.mk x1.templates x1.env (dA (x1.uses + 1))))
   else
    if decide (4096≤x1.uses) then
     some ((au.mk ([]:Str) ([]:Str) [] []),15,(aJ.mk x1.templates x1.env (dA (x1.uses + 1))))
    else
     kU bM x1 Hy nO zo BIG [] 0
mutual
def iy :Nat→aJ→au→Int→Option (au × Int × aJ)
 | 0,_,_,_=>none
 | k + 1,N_,l6,kS=>oJ (iy k) (gV k) N_ l6 kS
def gV :Nat→aJ→au→Int→Option (au × Int × aJ)
 | 0,_,_,_=>none
 | k + 1,N_,Gp,kS=>nU (iy k) (gV k) N_ Gp kS
end
def wm (N_:aJ) (l6:au) (kS:Int):Option (au × Int × aJ):=iy BIG N_ l6 kS
def vM (N_:aJ) (Gp:au) (kS:Int):Option (au × Int × aJ):=gV BIG N_ Gp kS
def oL (f1:dY):Nat→Int→dY→aJ→Option (dY × Int)
 | 0,_,_,_=>none
 | bY + 1,x1,bg,y1=>
  if decide (x1 < (f1.blocks.length:Int)) then
   ay (idx f1.blocks x1) fun e3=>
   if !(e3.kind == ([117,115,101]:Str)) then
    wL (wm y1 e3 0) fun x2 x3 y2=>
    if x3 != 0 then
     some ((dY.mk []),x3)
    else
     ay (app bg.blocks [x2]) fun x4=>
     oL f1 bY (dA (x1 + 1)) (dY.mk x4) y2
   else
    wL (vM y1 e3 0) fun x5 x6 y3=>
    if x6 != 0 then
     some ((dY.mk []),x6)
    else
     if decide (0 < (x5.attrs.length:Int)) then
      some ((dY.mk []),1)
     else
      ay (app bg.blocks x5.blocks) fun x7=>
      oL f1 bY (dA (x1 + 1)) (dY.mk x7) y3
  else
   ay (za bg) fun e4=>
   if e4 != 0 then
    some ((dY.mk []),e4)
   else
    some (bg,0)
def A_ (f1:dY) (Dm:List bK) (mZ:List aA):Option (dY × Int):=
 ay (za f1) fun e1=>
 if e1 != 0 then
  some ((dY.mk []),e1)
 else
  ay (EY mZ) fun e2=>
  if e2 != 0 then
   some ((dY.mk []),e2)
  else
   oL f1 BIG 0 (dY.mk []) (aJ.mk Dm mZ 0)
def zI (f1:dY) (mZ:List aA):Option (dY × Int):=
 wL (zy f1) fun Dm x1 e1=>
 if e1 != 0 then
  some ((dY.mk []),e1)
 else
  A_ x1 Dm mZ
def EU :Option Bool:=
 ay (Ap (ah.mk 2 false 2 ([]:Str) [] [])) fun x1=>
 ay (ET [(aS.mk ([110]:Str) x1)]) fun x2=>
 fJ (zI x2 []) fun x3 e1=>
 ay (ET []) fun x4=>
 fJ (zI x4 []) fun x5 g1=>
 ay (LU ([97]:Str)) fun x6=>
 ay (ET [(aS.mk ([110]:Str) x6)]) fun x7=>
 fJ (zI x7 []) fun x8 hx1=>
 ay (ET [(aS.mk ([109]:Str) x1)]) fun x9=>
 fJ (zI x9 []) fun K3 zo=>
 ay (
   if (e1 != 0) || ((x3.blocks.length:Int) != 1) then
    some true
   else
    ay (idx x3.blocks 0) fun e2=>
    some ((e2.attrs.length:Int) != 1)) fun b1=>
 ay (
   if b1 then
    some true
   else
    ay (idx x3.blocks 0) fun e3=>
    some ((e3.blocks.length:Int) != 0)) fun b2=>
 if ((b2 || (g1 != 8)) || (hx1 != 9)) || (zo != 10) then
  some false
 else
  fJ (sK [(aQ.mk ([110]:Str) (aD.mk 3 []) true (ah.mk 2 false 7 ([]:Str) [] []))] []) fun l1 m1=>
  ay (idx x3.blocks 0) fun e4=>
  ay (idx e4.attrs 0) fun e5=>
  ay (DN e5.expr) fun Nq=>
  if ((Nq == ([50,32,43,32,49]:Str)) && (m1 == 0)) && ((l1.length:Int) == 1) then
   ay (idx l1 0) fun e6=>
   some (e6.value.iC == 7)
  else
   some false
def xJ (ps1:List aQ) (name1:Str):Nat→Int→Option Int
 | 0,_=>none
 | bY + 1,i1=>
  if decide (i1 < (ps1.length:Int)) then
   ay (idx ps1 i1) fun e1=>
   if e1.name == name1 then
    some i1
   else
    xJ ps1 name1 bY (dA (i1 + 1))
  else
   some (-1)
def Lm (ps1:List aQ) (name1:Str):Option Int:=
 xJ ps1 name1 BIG 0
def vk (args1:List aA) (name1:Str):Nat→Int→Option (ah × Bool)
 | 0,_=>none
 | bY + 1,i1=>
  if decide (i1 < (args1.length:Int)) then
   ay (idx args1 i1) fun e1=>
   if e1.name == name1 then
    ay (idx args1 i1) fun e2=>
    some (e2.value,true)
   else
    vk args1 name1 bY (dA (i1 + 1))
  else
   some ((ah.mk 0 false 0 ([]:Str) [] []),false)
def Ce (args1:List aA) (name1:Str):Option (ah × Bool):=
 vk args1 name1 BIG 0
def EL (v1:ah):Option Bool:=
 if ((v1.iD && (v1.kind != 1)) || ((v1.iC != 0) && (v1.kind != 2))) || ((!(v1.gW == ([]:Str))) && (v1.kind != 3)) then
  some false
 else
  if ((decide (0 < (v1.bH.length:Int))) && (v1.kind != 4)) && (v1.kind != 5) then
   some false
  else
   some (((v1.keys.length:Int) == 0) || (v1.kind == 5))
def Lv (s1:Str):Option Bool:=
 some ((decide (1≤(s1.length:Int))) && (decide ((s1.length:Int)≤64)))
def vv (XY:Bool) (LY:Bool):Option Int:=
 if XY then
  some (-1)
 else
  if LY then
   some 1
  else
   some 0
def Ci (c1:UInt8):Option Bool:=
 some ((decide (48≤(c1.toNat:Int))) && (decide ((c1.toNat:Int)≤57)))
def Cz (s1:Str):Nat→Int→Option Int
 | 0,_=>none
 | bY + 1,at2=>
  ay (
    if decide (at2 < (s1.length:Int)) then
     ay (idx s1 at2) fun x1=>
     Ci x1
    else
     some false) fun b1=>
  if b1 then
   Cz s1 bY (dA (at2 + 1))
  else
   some at2
def LA (s1:Str) (jy:Int):Option Int:=
 Cz s1 BIG jy
def vo (s1:Str):Nat→Int→Option Str
 | 0,_=>none
 | bY + 1,i1=>
  ay (
    if decide (i1 < (s1.length:Int)) then
     ay (idx s1 i1) fun x1=>
     some ((x1.toNat:Int) == 48)
    else
     some false) fun b1=>
  if b1 then
   vo s1 bY (dA (i1 + 1))
  else
   sl s1 i1 (s1.length:Int)
def Ch (s1:Str):Option Str:=
 vo s1 BIG 0
def H_ (a1:Str) (b1:Str):Option Int:=
 ay (Ch a1) fun x1=>
 ay (Ch b1) fun y1=>
 if (x1.length:Int) != (y1.length:Int) then
  vv (decide ((x1.length:Int) < (y1.length:Int))) (decide ((y1.length:Int) < (x1.length:Int)))
 else
  if !(x1 == y1) then
   vv (Go.Op.bytesLess x1 y1) (!(Go.Op.bytesLess x1 y1 || x1 == y1))
  else
   vv (decide ((a1.length:Int) < (b1.length:Int))) (decide ((b1.length:Int) < (a1.length:Int)))
def mX (a1:Str) (b1:Str):Nat→Int→Int→Option Int
 | 0,_,_=>none
 | bY + 1,i1,zo=>
  if (decide (i1 < (a1.length:Int))) && (decide (zo < (b1.length:Int))) then
   ay (idx a1 i1) fun x1=>
   ay (idx b1 zo) fun x2=>
   ay (idx a1 i1) fun x3=>
   ay (idx b1 zo) fun x4=>
   ay (vv (decide ((x1.toNat:Int) < (x2.toNat:Int))) (decide ((x4.toNat:Int) < (x3.toNat:Int)))) fun c1=>
   ay (idx a1 i1) fun x5=>
   ay (Ci x5) fun x6=>
   ay (
     if x6 then
      ay (idx b1 zo) fun x7=>
      Ci x7
     else
      some false) fun b2=>
   if b2 then
    ay (LA a1 i1) fun m1=>
    ay (LA b1 zo) fun n1=>
    ay (sl a1 i1 m1) fun x9=>
    ay (sl b1 zo n1) fun K3=>
    ay (H_ x9 K3) fun c2=>
    if c2 != 0 then
     some c2
    else
     mX a1 b1 bY m1 n1
   else
    if c1 != 0 then
     some c1
    else
     mX a1 b1 bY (dA (i1 + 1)) (dA (zo + 1))
  else
   vv (decide (zo < (b1.length:Int))) (decide (i1 < (a1.length:Int)))
def uw (a1:Str) (b1:Str):Option Int:=
 mX a1 b1 BIG 0 0
def oF (v1:ah):Nat→Int→Option Bool
 | 0,_=>none
 | bY + 1,i1=>
  if decide (i1 < (v1.keys.length:Int)) then
   ay (idx v1.keys i1) fun e1=>
   ay (Lv e1) fun x1=>
   ay (
     if !x1 then
      some true
     else
      if decide (0 < i1) then
       ay (idx v1.keys (dA (i1 - 1))) fun e2=>
       ay (idx v1.keys i1) fun e3=>
       ay (uw e2 e3) fun x2=>
       some (decide (0≤x2))
      else
       some false) fun b1=>
   if b1 then
    some false
   else
    oF v1 bY (dA (i1 + 1))
  else
   some ((v1.keys.length:Int) == (v1.bH.length:Int))
def wB (v1:ah):Option Bool:=
 oF v1 BIG 0
def yx (mR:ah→Int→Option Int) (v1:ah) (bU:Int):Nat→Int→Option Int
 | 0,_=>none
 | bY + 1,i1=>
  if decide (i1 < (v1.bH.length:Int)) then
   ay (idx v1.bH i1) fun e1=>
   ay (mR e1 (dA (bU + 1))) fun e2=>
   if e2 != 0 then
    some e2
   else
    yx mR v1 bU bY (dA (i1 + 1))
  else
   some 0
def DK (mR:ah→Int→Option Int) (v1:ah) (bU:Int):Option Int:=
 if decide (16 < bU) then
  some 13
 else
  ay (
    if (decide (v1.kind < 0)) || (decide (5 < v1.kind)) then
     some true
    else
     ay (EL v1) fun x1=>
     some (!x1)) fun b1=>
  if b1 then
   some 1
  else
   if (decide (v1.iC < (-9007199254740992))) || (decide (9007199254740992 < v1.iC)) then
    some 2
   else
    if ((decide (4096 < (v1.gW.length:Int))) || (decide (1024 < (v1.bH.length:Int)))) || (decide (1024 < (v1.keys.length:Int))) then
     some 3
    else
     ay (
       if v1.kind == 5 then
        ay (wB v1) fun x2=>
        some (!x2)
       else
        some false) fun b2=>
     if b2 then
      some 1
     else
      if ((decide (4≤v1.kind)) && ((v1.bH.length:Int) == 0)) && (bU == 16) then
       some 13
      else
       yx mR v1 bU BIG 0
def qc :Nat→ah→Int→Option Int
 | 0,_,_=>none
 | k + 1,pO,eZ=>DK (qc k) pO eZ
def MN (pO:ah) (eZ:Int):Option Int:=qc BIG pO eZ
def EM (v1:ah):Option Int:=
 MN v1 1
def sM (iZ:Int):Option Bool:=
 some ((iZ == 5) || (iZ == 6))
def DJ (vC:aD→Int→Option Int) (t1:aD) (bU:Int):Option Int:=
 if decide (16 < bU) then
  some 13
 else
  if (decide (t1.kind < 0)) || (decide (7 < t1.kind)) then
   some 1
  else
   ay (sM t1.kind) fun x1=>
   if !x1 then
    if decide (0 < (t1.elem.length:Int)) then
     some 1
    else
     some 0
   else
    if (t1.elem.length:Int) != 1 then
     some 1
    else
     ay (idx t1.elem 0) fun e1=>
     vC e1 (dA (bU + 1))
def uo :Nat→aD→Int→Option Int
 | 0,_,_=>none
 | k + 1,Oa,eZ=>DJ (uo k) Oa eZ
def Sq (Oa:aD) (eZ:Int):Option Int:=uo BIG Oa eZ
def Cg (t1:aD):Option Int:=
 Sq t1 1
def oD (iZ:Int):Option aD:=
 some (aD.mk iZ [])
def uq (iZ:Int) (t1:aD):Option aD:=
 some (aD.mk iZ [t1])
def xu (xQ:aD→aD→Option aD) (a1:aD) (b1:aD):Option aD:=
 if a1.kind == 7 then
  some b1
 else
  if b1.kind == 7 then
   some a1
  else
   if a1.kind != b1.kind then
    oD 0
   else
    ay (sM a1.kind) fun x2=>
    if x2 then
     ay (idx a1.elem 0) fun e1=>
     ay (idx b1.elem 0) fun e2=>
     ay (xQ e1 e2) fun x3=>
     uq a1.kind x3
    else
     some a1
def qA :Nat→aD→aD→Option aD
 | 0,_,_=>none
 | k + 1,pQ,l6=>xu (qA k) pQ l6
def Lu (pQ:aD) (l6:aD):Option aD:=qA BIG pQ l6
def EK (sN:ah→Option aD) (v1:ah):Nat→Int→aD→Option aD
 | 0,_,_=>none
 | bY + 1,i1,t1=>
  if decide (i1 < (v1.bH.length:Int)) then
   ay (idx v1.bH i1) fun e1=>
   ay (sN e1) fun x6=>
   ay (Lu t1 x6) fun x7=>
   EK sN v1 bY (dA (i1 + 1)) x7
  else
   if v1.kind == 5 then
    uq 6 t1
   else
    uq 5 t1
def Ls (sN:ah→Option aD) (v1:ah):Option aD:=
 if v1.kind == 0 then
  oD 1
 else
  if v1.kind == 1 then
   oD 2
  else
   if v1.kind == 2 then
    oD 3
   else
    if v1.kind == 3 then
     oD 4
    else
     ay (oD 7) fun x5=>
     EK sN v1 BIG 0 x5
def yw :Nat→ah→Option aD
 | 0,_=>none
 | k + 1,pO=>Ls (yw k) pO
def Wy (pO:ah):Option aD:=yw BIG pO
def nL (oH:aD→aD→Option Bool) (a1:aD) (b1:aD):Option Bool:=
 if (a1.kind == 7) || (b1.kind == 0) then
  some true
 else
  if a1.kind != b1.kind then
   some false
  else
   ay (sM a1.kind) fun x1=>
   if !x1 then
    some true
   else
    ay (idx a1.elem 0) fun e1=>
    ay (idx b1.elem 0) fun e2=>
    oH e1 e2
def jV :Nat→aD→aD→Option Bool
 | 0,_,_=>none
 | k + 1,pQ,l6=>nL (jV k) pQ l6
def Ee (pQ:aD) (l6:aD):Option Bool:=jV BIG pQ l6
def H9 (v1:ah) (t1:aD):Option Bool:=
 ay (EM v1) fun x1=>
 ay (
   if x1 == 0 then
    ay (Cg t1) fun x2=>
    some (x2 == 0)
   else
    some false) fun b1=>
 if b1 then
  ay (Wy v1) fun x3=>
  Ee x3 t1
 else
  some false
def rE (ps1:List aQ) (args1:List aA):Nat→List aA→Int→Option (List aA × Int)
 | 0,_,_=>none
 | ED + 1,bg,i2=>
  if decide (i2 < (ps1.length:Int)) then
   ay (idx ps1 i2) fun e5=>
   fJ (Ce args1 e5.name) fun x4 ok2=>
   ay (
     if !ok2 then
      ay (idx ps1 i2) fun e6=>
      some (!e6.has)
     else
      some false) fun b1=>
   if b1 then
    some ([],8)
   else
    if !ok2 then
     ay (idx ps1 i2) fun e7=>
     ay (idx ps1 i2) fun e8=>
     ay (app bg [(aA.mk e8.name e7.default)]) fun jJ=>
     rE ps1 args1 ED jJ (dA (i2 + 1))
    else
     ay (idx ps1 i2) fun e9=>
     ay (app bg [(aA.mk e9.name x4)]) fun WH=>
     rE ps1 args1 ED WH (dA (i2 + 1))
  else
   some (bg,0)
def xK (ps1:List aQ) (args1:List aA):Nat→Int→Option (List aA × Int)
 | 0,_=>none
 | bY + 1,i1=>
  if decide (i1 < (args1.length:Int)) then
   ay (idx args1 i1) fun e1=>
   ay (Lm ps1 e1.name) fun zo=>
   if decide (zo < 0) then
    some ([],10)
   else
    ay (sl args1 0 i1) fun x1=>
    ay (idx args1 i1) fun e2=>
    fJ (Ce x1 e2.name) fun x2 ok1=>
    if ok1 then
     some ([],7)
    else
     ay (idx args1 i1) fun e3=>
     ay (idx ps1 zo) fun e4=>
     ay (H9 e3.value e4.Gs) fun x3=>
     if !x3 then
      some ([],9)
     else
      xK ps1 args1 bY (dA (i1 + 1))
  else
   rE ps1 args1 BIG [] 0
def Lp (ps1:List aQ) (args1:List aA):Option (List aA × Int):=
 xK ps1 args1 BIG 0
def oh (kE:ah→ah→Option Bool) (a1:ah) (b1:ah):Nat→Int→Option Bool
 | 0,_=>none
 | ED + 1,i2=>
  if decide (i2 < (a1.bH.length:Int)) then
   ay (idx a1.bH i2) fun e3=>
   ay (idx b1.bH i2) fun e4=>
   ay (kE e3 e4) fun x1=>
   if !x1 then
    some false
   else
    oh kE a1 b1 ED (dA (i2 + 1))
  else
   some true
def xL (kE:ah→ah→Option Bool) (a1:ah) (b1:ah):Nat→Int→Option Bool
 | 0,_=>none
 | bY + 1,i1=>
  if decide (i1 < (a1.keys.length:Int)) then
   ay (idx a1.keys i1) fun e1=>
   ay (idx b1.keys i1) fun e2=>
   if !(e1 == e2) then
    some false
   else
    xL kE a1 b1 bY (dA (i1 + 1))
  else
   oh kE a1 b1 BIG 0
def Fy (kE:ah→ah→Option Bool) (a1:ah) (b1:ah):Option Bool:=
 if (((((a1.kind != b1.kind) || (!(a1.iD == b1.iD))) || (a1.iC != b1.iC)) || (!(a1.gW == b1.gW))) || ((a1.bH.length:Int) != (b1.bH.length:Int))) || ((a1.keys.length:Int) != (b1.keys.length:Int)) then
  some false
 else
  xL kE a1 b1 BIG 0
def xw :Nat→ah→ah→Option Bool
 | 0,_,_=>none
 | k + 1,pQ,l6=>Fy (xw k) pQ l6
def Lx (pQ:ah) (l6:ah):Option Bool:=xw BIG pQ l6
def pR (a1:List aA) (b1:List aA):Nat→Int→Option Bool
 | 0,_=>none
 | bY + 1,i1=>
  if decide (i1 < (a1.length:Int)) then
   ay (idx a1 i1) fun e1=>
   ay (idx b1 i1) fun e2=>
   ay (
     if !(e1.name == e2.name) then
      some true
     else
      ay (idx a1 i1) fun e3=>
      ay (idx b1 i1) fun e4=>
      ay (Lx e3.value e4.value) fun x1=>
      some (!x1)) fun b2=>
   if b2 then
    some false
   else
    pR a1 b1 bY (dA (i1 + 1))
  else
   some true
def yA (a1:List aA) (b1:List aA):Option Bool:=
 if (a1.length:Int) != (b1.length:Int) then
  some false
 else
  pR a1 b1 BIG 0
def tF (ps1:List aQ) (args1:List aA):Option Bool:=
 if decide (300 < (dA ((ps1.length:Int) + (args1.length:Int)))) then
  EU
 else
  fJ (sK ps1 args1) fun l1 e1=>
  fJ (Lp ps1 args1) fun m1 f1=>
  ay (yA l1 m1) fun x2=>
  if x2 && (e1 == f1) then
   EU
  else
   some false
end Go.Ft
