/- Proved here: nothing: the functional texts of the functions that the statements reach, as our program wrote them. -/
import Derived.Test.YtcohpegjnpcgcaaGreatDoorTvWords
set_option linter.unusedVariables false
set_option linter.unusedSimpArgs false
set_option linter.unusedSectionVars false
namespace Go.Ft
open Go
structure ah where
 kind:Int
 eB:Bool
 gI:Int
 fM:Str
 aW:List ah
 keys:List Str
structure aj where
 kind:Int
 name:Str
 value:ah
 args:List aj
 keys:List Str
structure aK where
 name:Str
 expr:aj
structure au where
 kind:Str
 name:Str
 attrs:List aK
 blocks:List au
structure cO where
 blocks:List au
structure aA where
 name:Str
 value:ah
structure aJ where
 kind:Int
 elem:List aJ
structure aI where
 code:Int
 deriving DecidableEq
structure jQ where
 half:List (BitVec 64)
 neg:Bool
 deriving DecidableEq
structure bN where
 name:Str
 KR:aJ
 has:Bool
 default:ah
structure bI where
 name:Str
 params:List bN
 body:au
structure aX where
 kind:Int
 text:Str
 at_:Int
 deriving DecidableEq
structure ak where
 ts:List aX
 at_:Int
 deriving DecidableEq
structure ay where
 at_:Int
 code:Int
 deriving DecidableEq
structure aY where
 text:Str
 is_:Bool
 expr:aj
structure aH where
 templates:List bI
 env:List aA
 uses:Int
structure acT where
 x:Int
 y:Int
 signed:Bool
 code:UInt8
 deriving DecidableEq
structure Ei where
 x:Int
 y:Int
 signed:Bool
 code:UInt8
 deriving DecidableEq
structure acS where
 msg:Str
 addr:BitVec 64
 deriving DecidableEq
structure xC where
 msg:Str
 addr:BitVec 64
 deriving DecidableEq
structure acR where
 blocks:List au
structure acQ where
 kind:Str
 name:Str
 attrs:List aK
 blocks:List au
structure acP where
 kind:Int
 eB:Bool
 gI:Int
 fM:Str
 aW:List ah
 keys:List Str
structure acO where
 kind:Int
 name:Str
 value:ah
 args:List aj
 keys:List Str
structure acN where
 name:Str
 expr:aj
structure acM where
 name:Str
 value:ah
structure acL where
 kind:Int
 elem:List aJ
structure acK where
 name:Str
 KR:aJ
 has:Bool
 default:ah
structure acJ where
 name:Str
 params:List bN
 body:au
structure acI where
 templates:List bI
 env:List aA
 uses:Int
structure acH where
 code:Int
 deriving DecidableEq
structure acG where
 text:Str
 is_:Bool
 expr:aj
structure acF where
 kind:Int
 text:Str
 at_:Int
 deriving DecidableEq
structure aiR where
 half:List (BitVec 64)
 neg:Bool
 deriving DecidableEq
structure acE where
 ts:List aX
 at_:Int
 deriving DecidableEq
structure acD where
 at_:Int
 code:Int
 deriving DecidableEq
structure acC where
 lo:UInt8
 hi:UInt8
 deriving DecidableEq
structure H8 where
 lo:UInt8
 hi:UInt8
 deriving DecidableEq
structure aiQ where
 func:Str
 num:Str
 err:Option Nat
structure aaB where
 func:Str
 num:Str
 err:Option Nat
structure acB where
 s:Str
 deriving DecidableEq
structure EU where
 s:Str
 deriving DecidableEq
mutual
def ah.bulk :ah→Nat
 | ⟨a0,a1,a2,a3,a4,a5⟩=>1 + 1 + 1 + (a3.length + 1) + (ah.pz a4 + 1) + ((List.map (fun z:Str=>(z.length + 1)) a5).sum + 1) + 1
def ah.pz :List ah→Nat
 | []=>0
 | x :: xs=>ah.bulk x + ah.pz xs
end
theorem ah.sV :∀ l:List ah,ah.pz l=(l.map ah.bulk).sum
 | []=>rfl
 | x :: l=>by simp only [ah.pz,List.map_cons,List.sum_cons,ah.sV l]
theorem ah.rF (x:ah):ah.bulk x=1 + 1 + 1 + (x.fM.length + 1) + (ah.pz x.aW + 1) + ((List.map (fun z:Str=>(z.length + 1)) x.keys).sum + 1) + 1:=by cases x; rfl
mutual
def aj.bulk :aj→Nat
 | ⟨a0,a1,a2,a3,a4⟩=>1 + (a1.length + 1) + (ah.bulk a2) + (aj.pz a3 + 1) + ((List.map (fun z:Str=>(z.length + 1)) a4).sum + 1) + 1
def aj.pz :List aj→Nat
 | []=>0
 | x :: xs=>aj.bulk x + aj.pz xs
end
theorem aj.sV :∀ l:List aj,aj.pz l=(l.map aj.bulk).sum
 | []=>rfl
 | x :: l=>by simp only [aj.pz,List.map_cons,List.sum_cons,aj.sV l]
theorem aj.rF (x:aj):aj.bulk x=1 + (x.name.length + 1) + (ah.bulk x.value) + (aj.pz x.args + 1) + ((List.map (fun z:Str=>(z.length + 1)) x.keys).sum + 1) + 1:=by cases x; rfl
def aK.bulk (x:aK):Nat:=(x.name.length + 1) + (aj.bulk x.expr) + 1
mutual
def au.bulk :au→Nat
 | ⟨a0,a1,a2,a3⟩=>(a0.length + 1) + (a1.length + 1) + ((List.map (fun z:aK=>(aK.bulk z)) a2).sum + 1) + (au.pz a3 + 1) + 1
def au.pz :List au→Nat
 | []=>0
 | x :: xs=>au.bulk x + au.pz xs
end
theorem au.sV :∀ l:List au,au.pz l=(l.map au.bulk).sum
 | []=>rfl
 | x :: l=>by simp only [au.pz,List.map_cons,List.sum_cons,au.sV l]
theorem au.rF (x:au):au.bulk x=(x.kind.length + 1) + (x.name.length + 1) + ((List.map (fun z:aK=>(aK.bulk z)) x.attrs).sum + 1) + (au.pz x.blocks + 1) + 1:=by cases x; rfl
def cO.bulk (x:cO):Nat:=(au.pz x.blocks + 1) + 1
def aA.bulk (x:aA):Nat:=(x.name.length + 1) + (ah.bulk x.value) + 1
mutual
def aJ.bulk :aJ→Nat
 | ⟨a0,a1⟩=>1 + (aJ.pz a1 + 1) + 1
def aJ.pz :List aJ→Nat
 | []=>0
 | x :: xs=>aJ.bulk x + aJ.pz xs
end
theorem aJ.sV :∀ l:List aJ,aJ.pz l=(l.map aJ.bulk).sum
 | []=>rfl
 | x :: l=>by simp only [aJ.pz,List.map_cons,List.sum_cons,aJ.sV l]
theorem aJ.rF (x:aJ):aJ.bulk x=1 + (aJ.pz x.elem + 1) + 1:=by cases x; rfl
def aI.bulk (x:aI):Nat:=1 + 1
def bN.bulk (x:bN):Nat:=(x.name.length + 1) + (aJ.bulk x.KR) + 1 + (ah.bulk x.default) + 1
def bI.bulk (x:bI):Nat:=(x.name.length + 1) + ((List.map (fun z:bN=>(bN.bulk z)) x.params).sum + 1) + (au.bulk x.body) + 1
def aX.bulk (x:aX):Nat:=1 + (x.text.length + 1) + 1 + 1
def ak.bulk (x:ak):Nat:=((List.map (fun z:aX=>(aX.bulk z)) x.ts).sum + 1) + 1 + 1
def ay.bulk (x:ay):Nat:=1 + 1 + 1
def aY.bulk (x:aY):Nat:=(x.text.length + 1) + 1 + (aj.bulk x.expr) + 1
def aH.bulk (x:aH):Nat:=((List.map (fun z:bI=>(bI.bulk z)) x.templates).sum + 1) + ((List.map (fun z:aA=>(aA.bulk z)) x.env).sum + 1) + 1 + 1
def acT.bulk (x:acT):Nat:=1 + 1 + 1 + 1 + 1
def Ei.bulk (x:Ei):Nat:=1 + 1 + 1 + 1 + 1
def acS.bulk (x:acS):Nat:=(x.msg.length + 1) + 1 + 1
def xC.bulk (x:xC):Nat:=(x.msg.length + 1) + 1 + 1
def acR.bulk (x:acR):Nat:=(au.pz x.blocks + 1) + 1
def acQ.bulk (x:acQ):Nat:=(x.kind.length + 1) + (x.name.length + 1) + ((List.map (fun z:aK=>(aK.bulk z)) x.attrs).sum + 1) + (au.pz x.blocks + 1) + 1
def acP.bulk (x:acP):Nat:=1 + 1 + 1 + (x.fM.length + 1) + (ah.pz x.aW + 1) + ((List.map (fun z:Str=>(z.length + 1)) x.keys).sum + 1) + 1
def acO.bulk (x:acO):Nat:=1 + (x.name.length + 1) + (ah.bulk x.value) + (aj.pz x.args + 1) + ((List.map (fun z:Str=>(z.length + 1)) x.keys).sum + 1) + 1
def acN.bulk (x:acN):Nat:=(x.name.length + 1) + (aj.bulk x.expr) + 1
def acM.bulk (x:acM):Nat:=(x.name.length + 1) + (ah.bulk x.value) + 1
def acL.bulk (x:acL):Nat:=1 + (aJ.pz x.elem + 1) + 1
def acK.bulk (x:acK):Nat:=(x.name.length + 1) + (aJ.bulk x.KR) + 1 + (ah.bulk x.default) + 1
def acJ.bulk (x:acJ):Nat:=(x.name.length + 1) + ((List.map (fun z:bN=>(bN.bulk z)) x.params).sum + 1) + (au.bulk x.body) + 1
def acI.bulk (x:acI):Nat:=((List.map (fun z:bI=>(bI.bulk z)) x.templates).sum + 1) + ((List.map (fun z:aA=>(aA.bulk z)) x.env).sum + 1) + 1 + 1
def acH.bulk (x:acH):Nat:=1 + 1
def acG.bulk (x:acG):Nat:=(x.text.length + 1) + 1 + (aj.bulk x.expr) + 1
def acF.bulk (x:acF):Nat:=1 + (x.text.length + 1) + 1 + 1
def acE.bulk (x:acE):Nat:=((List.map (fun z:aX=>(aX.bulk z)) x.ts).sum + 1) + 1 + 1
def acD.bulk (x:acD):Nat:=1 + 1 + 1
def acC.bulk (x:acC):Nat:=1 + 1 + 1
def H8.bulk (x:H8):Nat:=1 + 1 + 1
def acB.bulk (x:acB):Nat:=(x.s.length + 1) + 1
def EU.bulk (x:EU):Nat:=(x.s.length + 1) + 1
def FI (v1:ah):Option Bool:=
 if ((v1.eB && (v1.kind != 1)) || ((v1.gI != 0) && (v1.kind != 2))) || ((!(v1.fM == ([]:Str))) && (v1.kind != 3)) then
  some false
 else
  if ((decide (0 < (v1.aW.length:Int))) && (v1.kind != 4)) && (v1.kind != 5) then
   some false
  else
   some (((v1.keys.length:Int) == 0) || (v1.kind == 5))
def MK (s1:Str):Option Bool:=
 some ((decide (1≤(s1.length:Int))) && (decide ((s1.length:Int)≤64)))
def wP (Y5:Bool) (M0:Bool):Option Int:=
 if Y5 then
  some (-1)
 else
  if M0 then
   some 1
  else
   some 0
def Dl (c1:UInt8):Option Bool:=
 some ((decide (48≤(c1.toNat:Int))) && (decide ((c1.toNat:Int)≤57)))
def DK (s1:Str):Nat→Int→Option Int
 | 0,_=>none
 | bX + 1,at2=>
  av (
    if decide (at2 < (s1.length:Int)) then
     av (idx s1 at2) fun x1=>
     Dl x1
    else
     some false) fun b1=>
  if b1 then
   DK s1 bX (cZ (at2 + 1))
  else
   some at2
def ML (s1:Str) (jL:Int):Option Int:=
 DK s1 BIG jL
def wO (s1:Str):Nat→Int→Option Str
 | 0,_=>none
 | bX + 1,i1=>
  av (
    if decide (i1 < (s1.length:Int)) then
     av (idx s1 i1) fun x1=>
     some ((x1.toNat:Int) == 48)
    else
     some false) fun b1=>
  if b1 then
   wO s1 bX (cZ (i1 + 1))
  else
   sl s1 i1 (s1.length:Int)
def Dk (s1:Str):Option Str:=
 wO s1 BIG 0
def I5 (a1:Str) (b1:Str):Option Int:=
 av (Dk a1) fun x1=>
 av (Dk b1) fun y1=>
 if (x1.length:Int) != (y1.length:Int) then
  wP (decide ((x1.length:Int) < (y1.length:Int))) (decide ((y1.length:Int) < (x1.length:Int)))
 else
  if !(x1 == y1) then
   wP (Go.Op.bytesLess x1 y1) (!(Go.Op.bytesLess x1 y1 || x1 == y1))
  else
   wP (decide ((a1.length:Int) < (b1.length:Int))) (decide ((b1.length:Int) < (a1.length:Int)))
def oh (a1:Str) (b1:Str):Nat→Int→Int→Option Int
 | 0,_,_=>none
 | bX + 1,i1,Al=>
  if (decide (i1 < (a1.length:Int))) && (decide (Al < (b1.length:Int))) then
   av (idx a1 i1) fun x1=>
   av (idx b1 Al) fun x2=>
   av (idx a1 i1) fun x3=>
   av (idx b1 Al) fun x4=>
   av (wP (decide ((x1.toNat:Int) < (x2.toNat:Int))) (decide ((x4.toNat:Int) < (x3.toNat:Int)))) fun c1=>
   av (idx a1 i1) fun x5=>
   av (Dl x5) fun x6=>
   av (
     if x6 then
      av (idx b1 Al) fun x7=>
      Dl x7
     else
      some false) fun b2=>
   if b2 then
    av (ML a1 i1) fun m1=>
    av (ML b1 Al) fun n1=>
    av (sl a1 i1 m1) fun x9=>
    av (sl b1 Al n1) fun Il=>
    av (I5 x9 Il) fun c2=>
    if c2 != 0 then
     some c2
    else
     oh a1 b1 bX m1 n1
   else
    if c1 != 0 then
     some c1
    else
     oh a1 b1 bX (cZ (i1 + 1)) (cZ (Al + 1))
  else
   wP (decide (Al < (b1.length:Int))) (decide (i1 < (a1.length:Int)))
def qU (a1:Str) (b1:Str):Option Int:=
 oh a1 b1 BIG 0 0
def p8 (v1:ah):Nat→Int→Option Bool
 | 0,_=>none
 | bX + 1,i1=>
  if decide (i1 < (v1.keys.length:Int)) then
   av (idx v1.keys i1) fun e1=>
   av (MK e1) fun x1=>
   av (
     if !x1 then
      some true
     else
      if decide (0 < i1) then
       av (idx v1.keys (cZ (i1 - 1))) fun e2=>
       av (idx v1.keys i1) fun e3=>
       av (qU e2 e3) fun x2=>
       some (decide (0≤x2))
      else
       some false) fun b1=>
   if b1 then
    some false
   else
    p8 v1 bX (cZ (i1 + 1))
  else
   some ((v1.keys.length:Int) == (v1.aW.length:Int))
def xM (v1:ah):Option Bool:=
 p8 v1 BIG 0
def zF (nW:ah→Int→Option Int) (v1:ah) (bS:Int):Nat→Int→Option Int
 | 0,_=>none
 | bX + 1,i1=>
  if decide (i1 < (v1.aW.length:Int)) then
   av (idx v1.aW i1) fun e1=>
   av (nW e1 (cZ (bS + 1))) fun e2=>
   if e2 != 0 then
    some e2
   else
    zF nW v1 bS bX (cZ (i1 + 1))
  else
   some 0
def ED (nW:ah→Int→Option Int) (v1:ah) (bS:Int):Option Int:=
 if decide (16 < bS) then
  some 13
 else
  av (
    if (decide (v1.kind < 0)) || (decide (5 < v1.kind)) then
     some true
    else
     av (FI v1) fun x1=>
     some (!x1)) fun b1=>
  if b1 then
   some 1
  else
   if (decide (v1.gI < (-9007199254740992))) || (decide (9007199254740992 < v1.gI)) then
    some 2
   else
    if ((decide (4096 < (v1.fM.length:Int))) || (decide (1024 < (v1.aW.length:Int)))) || (decide (1024 < (v1.keys.length:Int))) then
     some 3
    else
     av (
       if v1.kind == 5 then
        av (xM v1) fun x2=>
        some (!x2)
       else
        some false) fun b2=>
     if b2 then
      some 1
     else
      if ((decide (4≤v1.kind)) && ((v1.aW.length:Int) == 0)) && (bS == 16) then
       some 13
      else
       zF nW v1 bS BIG 0
def qR :Nat→ah→Int→Option Int
 | 0,_,_=>none
 | k + 1,tO,fT=>ED (qR k) tO fT
def NP (tO:ah) (fT:Int):Option Int:=qR BIG tO fT
def Dj (v1:ah):Option Int:=
 NP v1 1
def nk (v1:ah):Option aj:=
 some (aj.mk 1 ([]:Str) v1 [] [])
def FP (s1:Str):Option aj:=
 nk (ah.mk 3 false 0 s1 [] [])
def qX (s1:Str):Option aj:=
 some (aj.mk 2 s1 (ah.mk 0 false 0 ([]:Str) [] []) [] [])
def Vn (e1:aj):Option aj:=
 av (nk (ah.mk 2 false 1 ([]:Str) [] [])) fun x1=>
 some (aj.mk 7 ([43]:Str) (ah.mk 0 false 0 ([]:Str) [] []) [e1,x1] [])
def FQ (args1:List aK):Option cO:=
 av (FP ([105,110,116]:Str)) fun x1=>
 av (qX ([110]:Str)) fun x2=>
 av (Vn x2) fun x3=>
 some (cO.mk [(au.mk ([116,101,109,112,108,97,116,101]:Str) ([116]:Str) [(aK.mk ([120]:Str) x3)] [(au.mk ([112,97,114,97,109]:Str) ([110]:Str) [(aK.mk ([116,121,112,101]:Str) x1)] [])]),(au.mk ([106,111,98]:Str) ([]:Str) [] [(au.mk ([117,115,101]:Str) ([116]:Str) args1 [])])])
def uH (kH:aj→Option Int) (e1:aj):Nat→Int→Int→Option Int
 | 0,_,_=>none
 | bX + 1,n1,x1=>
  if decide (x1 < (e1.args.length:Int)) then
   av (idx e1.args x1) fun e2=>
   av (kH e2) fun x2=>
   uH kH e1 bX (cZ (n1 + x2)) (cZ (x1 + 1))
  else
   some n1
def zL (kH:aj→Option Int) (e1:aj):Option Int:=
 uH kH e1 BIG 1 0
def mV :Nat→aj→Option Int
 | 0,_=>none
 | k + 1,j3=>zL (mV k) j3
def CR (j3:aj):Option Int:=mV BIG j3
def EF (v1:ah):Option Bool:=
 some ((((((v1.kind == 0) && (!v1.eB)) && (v1.gI == 0)) && (v1.fM == ([]:Str))) && ((v1.aW.length:Int) == 0)) && ((v1.keys.length:Int) == 0))
def xO (c1:UInt8):Option Bool:=
 some ((((decide (97≤(c1.toNat:Int))) && (decide ((c1.toNat:Int)≤122))) || ((decide (65≤(c1.toNat:Int))) && (decide ((c1.toNat:Int)≤90)))) || ((c1.toNat:Int) == 95))
def zJ (c1:UInt8):Option Bool:=
 some ((decide (48≤(c1.toNat:Int))) && (decide ((c1.toNat:Int)≤57)))
def sw (s1:Str):Nat→Int→Option Bool
 | 0,_=>none
 | bX + 1,i1=>
  if decide (i1 < (s1.length:Int)) then
   av (idx s1 i1) fun x3=>
   av (xO x3) fun x4=>
   av (
     if !x4 then
      av (idx s1 i1) fun x5=>
      av (zJ x5) fun x6=>
      some (!x6)
     else
      some false) fun b2=>
   if b2 then
    some false
   else
    sw s1 bX (cZ (i1 + 1))
  else
   some true
def zi (s1:Str):Option Bool:=
 av (
   if (decide ((s1.length:Int) < 1)) || (decide (64 < (s1.length:Int))) then
    some true
   else
    av (idx s1 0) fun x1=>
    av (xO x1) fun x2=>
    some (!x2)) fun b1=>
 if b1 then
  some false
 else
  sw s1 BIG 0
def ze (s1:Str):Option Bool:=
 some (((s1 == ([116,114,117,101]:Str)) || (s1 == ([102,97,108,115,101]:Str))) || (s1 == ([110,117,108,108]:Str)))
def tY (s1:Str):Option Bool:=
 av (zi s1) fun x1=>
 if x1 then
  av (ze s1) fun x2=>
  some (!x2)
 else
  some false
def jr (op1:Str):Option Int:=
 if op1 == ([124,124]:Str) then
  some 2
 else
  if op1 == ([38,38]:Str) then
   some 3
  else
   if op1 == ([61,61]:Str) then
    some 4
   else
    if op1 == ([33,61]:Str) then
     some 4
    else
     if op1 == ([60]:Str) then
      some 4
     else
      if op1 == ([60,61]:Str) then
       some 4
      else
       if op1 == ([62]:Str) then
        some 4
       else
        if op1 == ([62,61]:Str) then
         some 4
        else
         if op1 == ([43]:Str) then
          some 5
         else
          if op1 == ([45]:Str) then
           some 5
          else
           if op1 == ([42]:Str) then
            some 6
           else
            if op1 == ([47]:Str) then
             some 6
            else
             if op1 == ([37]:Str) then
              some 6
             else
              some 0
def zH (e1:aj):Option Bool:=
 if e1.kind == 2 then
  tY e1.name
 else
  if e1.kind == 3 then
   tY e1.name
  else
   if e1.kind == 5 then
    tY e1.name
   else
    if e1.kind == 6 then
     some ((e1.name == ([33]:Str)) || (e1.name == ([45]:Str)))
    else
     if e1.kind == 7 then
      av (jr e1.name) fun x4=>
      some (decide (0 < x4))
     else
      some (e1.name == ([]:Str))
def zK (e1:aj):Option Bool:=
 if e1.kind == 1 then
  some ((e1.args.length:Int) == 0)
 else
  if e1.kind == 2 then
   some ((e1.args.length:Int) == 0)
  else
   if e1.kind == 3 then
    some ((e1.args.length:Int) == 1)
   else
    if e1.kind == 6 then
     some ((e1.args.length:Int) == 1)
    else
     if e1.kind == 4 then
      some ((e1.args.length:Int) == 2)
     else
      if e1.kind == 7 then
       some ((e1.args.length:Int) == 2)
      else
       if e1.kind == 8 then
        some ((e1.args.length:Int) == 3)
       else
        some true
def h_ (s1:List Str) (f1:Str→Option Bool):Nat→Int→Option Int
 | 0,_=>none
 | bX + 1,i1=>
  if decide (i1 < (s1.length:Int)) then
   av (idx s1 i1) fun e1=>
   av (f1 e1) fun x1=>
   if x1 then
    some i1
   else
    h_ s1 f1 bX (cZ (i1 + 1))
  else
   some (-1)
def j5 (s1:List Str) (f1:Str→Option Bool):Option Int:=
 h_ s1 f1 BIG 0
def ig (s1:List Str) (f1:Str→Option Bool):Option Bool:=
 av (j5 s1 f1) fun x1=>
 some (decide (0≤x1))
def lG (Al:Str):Option Bool:=
 some ((decide ((Al.length:Int) < 1)) || (decide (64 < (Al.length:Int))))
def zI (e1:aj):Option Bool:=
 if e1.kind != 10 then
  some ((e1.keys.length:Int) == 0)
 else
  if (e1.keys.length:Int) == (e1.args.length:Int) then
   av (ig e1.keys lG) fun x1=>
   some (!x1)
  else
   some false
def xJ {β:Type} (go:β→ah→Int→Option (Bool × β)) (v1:ah) (bS:Int):Nat→β→Int→Option (Bool × β)
 | 0,_,_=>none
 | bX + 1,s1,i1=>
  if decide (i1 < (v1.aW.length:Int)) then
   av (idx v1.aW i1) fun x1=>
   fU (go s1 x1 (cZ (bS + 1))) fun b1 s2=>
   if !b1 then
    some (false,s2)
   else
    xJ go v1 bS bX s2 (cZ (i1 + 1))
  else
   some (true,s1)
def Cy {β:Type} (go:β→ah→Int→Option (Bool × β)) (y:β→Int→ah→Option (Bool × β)) (s1:β) (v1:ah) (bS:Int):Option (Bool × β):=
 fU (y s1 bS v1) fun b1 s2=>
 if !b1 then
  some (false,s2)
 else
  xJ go v1 bS BIG s2 0
def qM {β:Type} (y:β→Int→ah→Option (Bool × β)):Nat→β→ah→Int→Option (Bool × β)
 | 0,_,_,_=>none
 | k + 1,s1,v1,bS=>Cy (qM y k) y s1 v1 bS
def F9 {β:Type} (y:β→Int→ah→Option (Bool × β)) (s1:β) (v1:ah) (bS:Int):Option (Bool × β):=qM y BIG s1 v1 bS
def Cz (v1:ah):Option Bool:=
 some ((((((v1.kind == 1) || (!v1.eB)) && ((v1.kind == 2) || (v1.gI == 0))) && ((v1.kind == 3) || (v1.fM == ([]:Str)))) && (((v1.kind == 4) || (v1.kind == 5)) || ((v1.aW.length:Int) == 0))) && ((v1.kind == 5) || ((v1.keys.length:Int) == 0)))
def BI (c1:UInt8):Option Bool:=
 some ((decide (48≤(c1.toNat:Int))) && (decide ((c1.toNat:Int)≤57)))
def zT (s1:Str):Nat→Int→Option Int
 | 0,_=>none
 | bX + 1,n1=>
  av (
    if decide (n1 < (s1.length:Int)) then
     av (idx s1 n1) fun x1=>
     BI x1
    else
     some false) fun b1=>
  if b1 then
   zT s1 bX (cZ (n1 + 1))
  else
   some n1
def Dn (s1:Str):Option Int:=
 zT s1 BIG 0
def jC (c1:UInt8):Nat→Str→Option Str
 | 0,_=>none
 | bX + 1,s2=>
  av (
    if decide (0 < (s2.length:Int)) then
     av (idx s2 0) fun x1=>
     some ((x1.toNat:Int) == (c1.toNat:Int))
    else
     some false) fun b1=>
  if b1 then
   av (sl s2 1 (s2.length:Int)) fun s3=>
   jC c1 bX s3
  else
   some s2
def strings_trimLeftByte (s1:Str) (c1:UInt8):Option Str:=
 jC c1 BIG s1
def pX (s1:Str) (EM:Str):Option Str:=
 if (s1 == ([]:Str)) || (EM == ([]:Str)) then
  some s1
 else
  av (
    if (EM.length:Int) == 1 then
     av (idx EM 0) fun x1=>
     some (decide ((x1.toNat:Int) < 128))
    else
     some false) fun b1=>
  if b1 then
   av (idx EM 0) fun x2=>
   strings_trimLeftByte s1 x2
  else
   none
def cmp_isNaN_int (x1:Int):Option Bool:=
 some (x1 != x1)
def cmp_Compare_int (x1:Int) (y1:Int):Option Int:=
 av (cmp_isNaN_int x1) fun OC=>
 av (cmp_isNaN_int y1) fun Im=>
 if OC then
  if Im then
   some 0
  else
   some (-1)
 else
  if Im then
   some 1
  else
   if decide (x1 < y1) then
    some (-1)
   else
    if decide (y1 < x1) then
     some 1
    else
     some 0
def cmp_isNaN_string (x1:Str):Option Bool:=
 some (!(x1 == x1))
def nM (x1:Str) (y1:Str):Option Int:=
 av (cmp_isNaN_string x1) fun OC=>
 av (cmp_isNaN_string y1) fun Im=>
 if OC then
  if Im then
   some 0
  else
   some (-1)
 else
  if Im then
   some 1
  else
   if Go.Op.bytesLess x1 y1 then
    some (-1)
   else
    if !(Go.Op.bytesLess x1 y1 || x1 == y1) then
     some 1
    else
     some 0
def xZ (Hf:List Int):Nat→Int→Option Int
 | 0,_=>none
 | bX + 1,x1=>
  if decide (x1 < (Hf.length:Int)) then
   av (idx Hf x1) fun Zy=>
   if Zy != 0 then
    some Zy
   else
    xZ Hf bX (cZ (x1 + 1))
  else
   some 0
def D9 (Hf:List Int):Option Int:=
 xZ Hf BIG 0
def xV (a1:Str) (b1:Str):Option Int:=
 av (pX a1 ([48]:Str)) fun x1=>
 av (pX b1 ([48]:Str)) fun y1=>
 av (cmp_Compare_int (x1.length:Int) (y1.length:Int)) fun x2=>
 av (nM x1 y1) fun x3=>
 av (cmp_Compare_int (a1.length:Int) (b1.length:Int)) fun x4=>
 D9 ([x2,x3,x4]:List Int)
def wG (x1:UInt8):Option Bool:=
 some ((x1.toNat:Int) != (x1.toNat:Int))
def sQ (x1:UInt8) (y1:UInt8):Option Int:=
 av (wG x1) fun OC=>
 av (wG y1) fun Im=>
 if OC then
  if Im then
   some 0
  else
   some (-1)
 else
  if Im then
   some 1
  else
   if decide ((x1.toNat:Int) < (y1.toNat:Int)) then
    some (-1)
   else
    if decide ((y1.toNat:Int) < (x1.toNat:Int)) then
     some 1
    else
     some 0
def kP :Nat→Str→Str→Option Int
 | 0,_,_=>none
 | bX + 1,a2,b2=>
  if (!(a2 == ([]:Str))) && (!(b2 == ([]:Str))) then
   av (Dn a2) fun n1=>
   av (Dn b2) fun m1=>
   if (decide (0 < n1)) && (decide (0 < m1)) then
    av (sl a2 0 n1) fun x1=>
    av (sl b2 0 m1) fun x2=>
    av (xV x1 x2) fun c1=>
    if c1 != 0 then
     some c1
    else
     av (sl a2 n1 (a2.length:Int)) fun a3=>
     av (sl b2 m1 (b2.length:Int)) fun b3=>
     kP bX a3 b3
   else
    av (idx a2 0) fun x3=>
    av (idx b2 0) fun x4=>
    if (x3.toNat:Int) != (x4.toNat:Int) then
     av (idx a2 0) fun x5=>
     av (idx b2 0) fun x6=>
     sQ x5 x6
    else
     av (sl a2 1 (a2.length:Int)) fun a4=>
     av (sl b2 1 (b2.length:Int)) fun b4=>
     kP bX a4 b4
  else
   cmp_Compare_int (a2.length:Int) (b2.length:Int)
def jY (a1:Str) (b1:Str):Option Int:=
 kP BIG a1 b1
def rV (v1:ah):Nat→Int→Option Bool
 | 0,_=>none
 | bX + 1,i1=>
  if decide (i1 < (v1.keys.length:Int)) then
   av (idx v1.keys i1) fun Al=>
   av (
     if (decide ((Al.length:Int) < 1)) || (decide (64 < (Al.length:Int))) then
      some true
     else
      if decide (0 < i1) then
       av (idx v1.keys (cZ (i1 - 1))) fun e1=>
       av (jY e1 Al) fun x1=>
       some (decide (0≤x1))
      else
       some false) fun b1=>
   if b1 then
    some false
   else
    rV v1 bX (cZ (i1 + 1))
  else
   some true
def Bu (v1:ah):Option Bool:=
 if (v1.keys.length:Int) != (v1.aW.length:Int) then
  some false
 else
  rV v1 BIG 0
def Dv (v1:ah) (bS:Int):Option Int:=
 if decide (16 < bS) then
  some 13
 else
  av (
    if (decide (v1.kind < 0)) || (decide (5 < v1.kind)) then
     some true
    else
     av (Cz v1) fun x1=>
     some (!x1)) fun b1=>
  if b1 then
   some 1
  else
   if (decide (v1.gI < (-9007199254740992))) || (decide (9007199254740992 < v1.gI)) then
    some 2
   else
    if ((decide (4096 < (v1.fM.length:Int))) || (decide (1024 < (v1.aW.length:Int)))) || (decide (1024 < (v1.keys.length:Int))) then
     some 3
    else
     av (
       if v1.kind == 5 then
        av (Bu v1) fun x2=>
        some (!x2)
       else
        some false) fun b2=>
     if b2 then
      some 1
     else
      if (((v1.kind == 4) || (v1.kind == 5)) && ((v1.aW.length:Int) == 0)) && (bS == 16) then
       some 13
      else
       some 0
def nR (s1:Option Int) (bS:Int) (x1:ah):Option (Bool × Option Int):=
 match s1 with
 | some _=>none
 | none=>
  av (Dv x1 bS) fun e1=>
  if !(e1 == 0) then
   some (false,some e1)
  else
   some (true,none)
def l5 (v1:ah):Option Int:=
 fU (F9 nR none v1 1) fun _ s1=>
 some (s1.getD 0)
def qh (l1:List Str):Nat→Int→List (Str × Int)→Option Bool
 | 0,_,_=>none
 | bX + 1,x1,y1=>
  if decide (x1 < (l1.length:Int)) then
   av (idx l1 x1) fun s1=>
   if decide (1 < (wQ (xQ y1 s1 (cZ ((wQ y1 s1) + 1))) s1)) then
    some true
   else
    qh l1 bX (cZ (x1 + 1)) (xQ y1 s1 (cZ ((wQ y1 s1) + 1)))
  else
   some false
def uG (l1:List Str):Option Bool:=
 qh l1 BIG 0 []
def Bw (e1:aj) (bS:Int):Option Int:=
 if decide (16 < bS) then
  some 13
 else
  av (
    if (decide (e1.kind < 1)) || (decide (10 < e1.kind)) then
     some true
    else
     if e1.kind != 1 then
      av (EF e1.value) fun x1=>
      some (!x1)
     else
      some false) fun b1=>
  av (
    if b1 then
     some true
    else
     av (zH e1) fun x2=>
     some (!x2)) fun b3=>
  av (
    if b3 then
     some true
    else
     av (zK e1) fun x3=>
     some (!x3)) fun b4=>
  av (
    if b4 then
     some true
    else
     av (zI e1) fun x4=>
     some (!x4)) fun b5=>
  if b5 then
   some 1
  else
   av (
     if e1.kind == 1 then
      av (l5 e1.value) fun x5=>
      some (x5 != 0)
     else
      some false) fun b6=>
   if b6 then
    l5 e1.value
   else
    if decide (1024 < (e1.args.length:Int)) then
     some 3
    else
     av (uG e1.keys) fun x7=>
     if x7 then
      some 7
     else
      some 0
def uF (kG:aj→Int→Option Int) (e1:aj) (bS:Int):Nat→Int→Option Int
 | 0,_=>none
 | bX + 1,x1=>
  if decide (x1 < (e1.args.length:Int)) then
   av (idx e1.args x1) fun e2=>
   av (kG e2 (cZ (bS + 1))) fun f2=>
   if f2 != 0 then
    some f2
   else
    uF kG e1 bS bX (cZ (x1 + 1))
  else
   some 0
def zG (kG:aj→Int→Option Int) (e1:aj) (bS:Int):Option Int:=
 av (Bw e1 bS) fun f1=>
 if f1 != 0 then
  some f1
 else
  uF kG e1 bS BIG 0
def mQ :Nat→aj→Int→Option Int
 | 0,_,_=>none
 | k + 1,j3,fT=>zG (mQ k) j3 fT
def Gl (j3:aj) (fT:Int):Option Int:=mQ BIG j3 fT
def jq (e1:aj):Option Int:=
 av (CR e1) fun x1=>
 if decide (4096 < x1) then
  some 15
 else
  Gl e1 1
def ru (s1:Str):Option Bool:=
 av (jq (aj.mk 2 s1 (ah.mk 0 false 0 ([]:Str) [] []) [] [])) fun x1=>
 some (x1 == 0)
def l9 (b1:au):Nat→Int→List (Str × Int)→Option Int
 | 0,_,_=>none
 | bX + 1,x1,y1=>
  if decide (x1 < (b1.attrs.length:Int)) then
   av (idx b1.attrs x1) fun e1=>
   av (ru e1.name) fun x2=>
   if !x2 then
    some 1
   else
    av (jq e1.expr) fun e2=>
    if e2 != 0 then
     some e2
    else
     if decide (1 < (wQ (xQ y1 e1.name (cZ ((wQ y1 e1.name) + 1))) e1.name)) then
      some 7
     else
      l9 b1 bX (cZ (x1 + 1)) (xQ y1 e1.name (cZ ((wQ y1 e1.name) + 1)))
  else
   some 0
def mX (b1:au):Option Int:=
 l9 b1 BIG 0 []
def uM (kJ:au→Int→Option Int) (b1:au) (bS:Int):Nat→Int→Option Int
 | 0,_=>none
 | bX + 1,x2=>
  if decide (x2 < (b1.blocks.length:Int)) then
   av (idx b1.blocks x2) fun e2=>
   av (kJ e2 (cZ (bS + 1))) fun e3=>
   if e3 != 0 then
    some e3
   else
    uM kJ b1 bS bX (cZ (x2 + 1))
  else
   some 0
def wE (kJ:au→Int→Option Int) (b1:au) (bS:Int):Option Int:=
 if decide (16 < bS) then
  some 13
 else
  av (ru b1.kind) fun x1=>
  if (!x1) || (decide (64 < (b1.name.length:Int))) then
   some 1
  else
   if (decide (1024 < (b1.attrs.length:Int))) || (decide (1024 < (b1.blocks.length:Int))) then
    some 3
   else
    av (mX b1) fun e1=>
    if e1 != 0 then
     some e1
    else
     uM kJ b1 bS BIG 0
def ow :Nat→au→Int→Option Int
 | 0,_,_=>none
 | k + 1,oz,fT=>wE (ow k) oz fT
def C_ (oz:au) (fT:Int):Option Int:=ow BIG oz fT
def uN (f1:cO):Nat→Int→Option Int
 | 0,_=>none
 | bX + 1,x1=>
  if decide (x1 < (f1.blocks.length:Int)) then
   av (idx f1.blocks x1) fun e1=>
   av (C_ e1 1) fun e2=>
   if e2 != 0 then
    some e2
   else
    uN f1 bX (cZ (x1 + 1))
  else
   some 0
def rz (f1:cO):Option Int:=
 if decide (1024 < (f1.blocks.length:Int)) then
  some 3
 else
  uN f1 BIG 0
def dF (s1:List aK):Option (List aK):=
 app [] s1
def dW (s1:List Str):Option (List Str):=
 app [] s1
def eT (s1:List ah):Option (List ah):=
 app [] s1
def lg (go:ah→Option ah) (n1:Int):Nat→List ah→Int→Option (List ah)
 | 0,_,_=>none
 | bX + 1,l1,i1=>
  if decide (i1 < n1) then
   av (idx l1 i1) fun e1=>
   av (go e1) fun x1=>
   lg go n1 bX (l1.set i1.toNat x1) (cZ (i1 + 1))
  else
   some l1
def qO (go:ah→Option ah) (v1:ah):Option ah:=
 av (dW v1.keys) fun k1=>
 av (eT v1.aW) fun l1=>
 av (lg go (l1.length:Int) BIG l1 0) fun l2=>
 some (ah.mk v1.kind v1.eB v1.gI v1.fM l2 k1)
def l8 :Nat→ah→Option ah
 | 0,_=>none
 | k + 1,v1=>qO (l8 k) v1
def jM (v1:ah):Option ah:=l8 BIG v1
def eF (s1:List aj):Option (List aj):=
 app [] s1
def mZ (go:aj→(aj→Option (aj × Bool × Int))→Option (aj × Int)) (mY:aj→Option (aj × Bool × Int)) (n1:Int):Nat→List aj→Int→Option (List aj × Int)
 | 0,_,_=>none
 | bX + 1,l1,i1=>
  if decide (i1 < n1) then
   av (idx l1 i1) fun e1=>
   fU (go e1 mY) fun x1 Er=>
   if Er != 0 then
    some ([],Er)
   else
    mZ go mY n1 bX (l1.set i1.toNat x1) (cZ (i1 + 1))
  else
   some (l1,0)
def lX (go:aj→(aj→Option (aj × Bool × Int))→Option (aj × Int)) (e1:aj) (mY:aj→Option (aj × Bool × Int)):Option (aj × Int):=
 yg (mY e1) fun x1 known1 Er=>
 if known1 || (Er != 0) then
  some (x1,Er)
 else
  av (jM e1.value) fun x2=>
  av (dW e1.keys) fun k2=>
  av (eF e1.args) fun l1=>
  fU (mZ go mY (l1.length:Int) BIG l1 0) fun l2 Vw=>
  if Vw != 0 then
   some ((aj.mk 0 ([]:Str) (ah.mk 0 false 0 ([]:Str) [] []) [] []),Vw)
  else
   some ((aj.mk e1.kind e1.name x2 l2 k2),0)
def ji :Nat→aj→(aj→Option (aj × Bool × Int))→Option (aj × Int)
 | 0,_,_=>none
 | k + 1,e1,mY=>lX (ji k) e1 mY
def l6 (e1:aj) (mY:aj→Option (aj × Bool × Int)):Option (aj × Int):=ji BIG e1 mY
def kU (a1:aj):Option (aj × Bool × Int):=
 some ((aj.mk 0 ([]:Str) (ah.mk 0 false 0 ([]:Str) [] []) [] []),false,0)
def mO (e1:aj):Option aj:=
 fU (l6 e1 kU) fun x1 x2=>
 some x1
def lq (n1:Int):Nat→List aK→Int→Option (List aK)
 | 0,_,_=>none
 | bX + 1,l1,i1=>
  if decide (i1 < n1) then
   av (idx l1 i1) fun e1=>
   av (mO e1.expr) fun x1=>
   lq n1 bX (l1.set i1.toNat (aK.mk e1.name x1)) (cZ (i1 + 1))
  else
   some l1
def iF (l0:List aK):Option (List aK):=
 av (dF l0) fun l1=>lq (l1.length:Int) BIG l1 0
def fD (s1:List au):Option (List au):=
 app [] s1
def qx (go:au→Option au) (n1:Int):Nat→List au→Int→Option (List au)
 | 0,_,_=>none
 | bX + 1,l1,i1=>
  if decide (i1 < n1) then
   av (idx l1 i1) fun e1=>
   av (go e1) fun x1=>
   qx go n1 bX (l1.set i1.toNat x1) (cZ (i1 + 1))
  else
   some l1
def vN (go:au→Option au) (v1:au):Option au:=
 av (iF v1.attrs) fun k1=>
 av (fD v1.blocks) fun l1=>
 av (qx go (l1.length:Int) BIG l1 0) fun l2=>
 some (au.mk v1.kind v1.name k1 l2)
def qP :Nat→au→Option au
 | 0,_=>none
 | k + 1,v1=>vN (qP k) v1
def yK (v1:au):Option au:=qP BIG v1
def rQ (l1:List UInt8) (W9:Int→UInt8→Option Bool):Nat→Int→Option Bool
 | 0,_=>none
 | bX + 1,i1=>
  if decide (i1 < (l1.length:Int)) then
   av (idx l1 i1) fun e1=>
   av (W9 i1 e1) fun x1=>
   if !x1 then
    some false
   else
    rQ l1 W9 bX (cZ (i1 + 1))
  else
   some true
def AB (l1:List UInt8) (W9:Int→UInt8→Option Bool):Option Bool:=
 rQ l1 W9 BIG 0
def CW (i1:Int) (c1:UInt8):Option Bool:=
 av (
   if (decide (97≤(c1.toNat:Int))) && (decide ((c1.toNat:Int)≤122)) then
    some true
   else
    BI c1) fun b1=>
 some (b1 || ((decide (0 < i1)) && ((((c1.toNat:Int) == 95) || ((c1.toNat:Int) == 45)) || ((c1.toNat:Int) == 46))))
def LQ (s1:Str):Option Bool:=
 if (decide (0 < (s1.length:Int))) && (decide ((s1.length:Int)≤64)) then
  av (app ([]:Str) s1) fun x1=>
  AB x1 CW
 else
  some false
def BJ (ou:List aA):Nat→Int→List (Str × Int)→Option Int
 | 0,_,_=>none
 | bX + 1,x1,y1=>
  if decide (x1 < (ou.length:Int)) then
   av (idx ou x1) fun e1=>
   av (jq (aj.mk 2 e1.name (ah.mk 0 false 0 ([]:Str) [] []) [] [])) fun x2=>
   if x2 != 0 then
    some 1
   else
    av (l5 e1.value) fun e2=>
    if e2 != 0 then
     some e2
    else
     if decide (1 < (wQ (xQ y1 e1.name (cZ ((wQ y1 e1.name) + 1))) e1.name)) then
      some 7
     else
      BJ ou bX (cZ (x1 + 1)) (xQ y1 e1.name (cZ ((wQ y1 e1.name) + 1)))
  else
   some 0
def BK (ou:List aA):Option Int:=
 if decide (1024 < (ou.length:Int)) then
  some 3
 else
  BJ ou BIG 0 []
def Dw (s1:Str):Option Bool:=
 av (BK [(aA.mk s1 (ah.mk 0 false 0 ([]:Str) [] []))]) fun x1=>
 some (x1 == 0)
def yF (kI:ah→Option ah) (v1:ah):Nat→Int→ah→Option ah
 | 0,_,_=>none
 | bX + 1,x1,bn=>
  if decide (x1 < (v1.aW.length:Int)) then
   av (idx v1.aW x1) fun e1=>
   av (kI e1) fun x2=>
   av (app bn.aW [x2]) fun x3=>
   yF kI v1 bX (cZ (x1 + 1)) (ah.mk bn.kind bn.eB bn.gI bn.fM x3 bn.keys)
  else
   av (app [] v1.keys) fun x4=>
   some (ah.mk bn.kind bn.eB bn.gI bn.fM bn.aW x4)
def D8 (kI:ah→Option ah) (v1:ah):Option ah:=
 yF kI v1 BIG 0 (ah.mk v1.kind v1.eB v1.gI v1.fM [] v1.keys)
def wD :Nat→ah→Option ah
 | 0,_=>none
 | k + 1,tO=>D8 (wD k) tO
def M9 (tO:ah):Option ah:=wD BIG tO
def Ab (lJ:aj→Option aj) (e1:aj):Nat→Int→aj→Option aj
 | 0,_,_=>none
 | bX + 1,x2,bn=>
  if decide (x2 < (e1.args.length:Int)) then
   av (idx e1.args x2) fun e2=>
   av (lJ e2) fun x3=>
   av (app bn.args [x3]) fun x4=>
   Ab lJ e1 bX (cZ (x2 + 1)) (aj.mk bn.kind bn.name bn.value x4 bn.keys)
  else
   av (app [] e1.keys) fun x5=>
   some (aj.mk bn.kind bn.name bn.value bn.args x5)
def Fp (lJ:aj→Option aj) (e1:aj):Option aj:=
 av (M9 e1.value) fun x1=>
 Ab lJ e1 BIG 0 (aj.mk e1.kind e1.name x1 [] e1.keys)
def xY :Nat→aj→Option aj
 | 0,_=>none
 | k + 1,j3=>Fp (xY k) j3
def O4 (j3:aj):Option aj:=xY BIG j3
def Ac (b1:au) (name1:Str):Nat→Int→Option (aj × Bool)
 | 0,_=>none
 | bX + 1,x1=>
  if decide (x1 < (b1.attrs.length:Int)) then
   av (idx b1.attrs x1) fun e1=>
   if e1.name == name1 then
    av (O4 e1.expr) fun x2=>
    some (x2,true)
   else
    Ac b1 name1 bX (cZ (x1 + 1))
  else
   some ((aj.mk 0 ([]:Str) (ah.mk 0 false 0 ([]:Str) [] []) [] []),false)
def BL (b1:au) (name1:Str):Option (aj × Bool):=
 Ac b1 name1 BIG 0
def tF (kK:Int):Option Str:=
 if (decide (kK < 0)) || (decide (8≤kK)) then
  some ([]:Str)
 else
  idx ([([97,110,121]:Str),([110,117,108,108]:Str),([98,111,111,108]:Str),([105,110,116]:Str),([115,116,114,105,110,103]:Str),([108,105,115,116]:Str),([109,97,112]:Str),([110,101,118,101,114]:Str)]:List Str) kK
def oG (s1:Str) (nA:Str):Option Bool:=
 if decide ((nA.length:Int)≤(s1.length:Int)) then
  av (sl s1 0 (nA.length:Int)) fun x1=>
  some (x1 == nA)
 else
  some false
def sH (s1:Str) (nA:Str):Option (Str × Bool):=
 av (oG s1 nA) fun x1=>
 if !x1 then
  some (s1,false)
 else
  av (sl s1 (nA.length:Int) (s1.length:Int)) fun Yv=>
  some (Yv,true)
def strings_CutPrefix (s1:Str) (nA:Str):Option (Str × Bool):=
 sH s1 nA
def oF (s1:Str) (ny:Str):Option Bool:=
 if decide ((ny.length:Int)≤(s1.length:Int)) then
  av (sl s1 (cZ ((s1.length:Int) - (ny.length:Int))) (s1.length:Int)) fun x1=>
  some (x1 == ny)
 else
  some false
def sG (s1:Str) (ny:Str):Option (Str × Bool):=
 av (oF s1 ny) fun x1=>
 if !x1 then
  some (s1,false)
 else
  av (sl s1 0 (cZ ((s1.length:Int) - (ny.length:Int)))) fun Np=>
  some (Np,true)
def strings_CutSuffix (s1:Str) (ny:Str):Option (Str × Bool):=
 sG s1 ny
def rY (s1:Str):Nat→Int→Option (Int × Str)
 | 0,_=>none
 | bX + 1,x1=>
  if decide (x1 < (([5,6]:List Int).length:Int)) then
   av (idx ([5,6]:List Int) x1) fun kK=>
   av (tF kK) fun x2=>
   av (app x2 ([40]:Str)) fun x3=>
   fU (strings_CutPrefix s1 x3) fun jI ok1=>
   if !ok1 then
    rY s1 bX (cZ (x1 + 1))
   else
    fU (strings_CutSuffix jI ([41]:Str)) fun qE ok2=>
    if ok2 then
     some (kK,qE)
    else
     rY s1 bX (cZ (x1 + 1))
  else
   some (8,([]:Str))
def EZ (s1:Str):Option (Int × Str):=
 rY s1 BIG 0
def iM (kK:Int):Option Bool:=
 some ((kK == 5) || (kK == 6))
def gU (kK:Int):Option aJ:=
 some (aJ.mk kK [])
def oC (kK:Int) (qE:aJ):Option aJ:=
 some (aJ.mk kK [qE])
def yw (nL:List Int):Nat→Int→aJ→Option (aJ × Int)
 | 0,_,_=>none
 | kk3 + 1,i1,t1=>
  if decide (0≤i1) then
   av (idx nL i1) fun e1=>
   av (oC e1 t1) fun x4=>
   yw nL kk3 (cZ (i1 - 1)) x4
  else
   some (t1,0)
def yx (s2:Str) (nL:List Int):Nat→Int→Option (aJ × Int)
 | 0,_=>none
 | Jj + 1,Hr=>
  if decide (Hr < 8) then
   av (iM Hr) fun x1=>
   av (
     if x1 then
      some true
     else
      av (tF Hr) fun x2=>
      some (!(x2 == s2))) fun b1=>
   if b1 then
    yx s2 nL Jj (cZ (Hr + 1))
   else
    if decide (16≤(nL.length:Int)) then
     some ((aJ.mk 0 []),13)
    else
     av (gU Hr) fun x3=>
     yw nL BIG (cZ ((nL.length:Int) - 1)) x3
  else
   some ((aJ.mk 0 []),5)
def yA :Nat→Str→List Int→Option (aJ × Int)
 | 0,_,_=>none
 | bX + 1,s2,nL=>
  fU (EZ s2) fun kK jI=>
  if kK == 8 then
   yx s2 nL BIG 0
  else
   av (app nL ([kK]:List Int)) fun Yb=>
   yA bX jI Yb
def Gd (s1:Str):Option (aJ × Int):=
 if decide (4096 < (s1.length:Int)) then
  some ((aJ.mk 0 []),3)
 else
  yA BIG s1 []
def EJ (e1:aj) (ou:List aA):Option (List aA × Int):=
 av (BK ou) fun f1=>
 if f1 != 0 then
  some ([],f1)
 else
  av (jq e1) fun f2=>
  if f2 != 0 then
   some ([],f2)
  else
   some (ou,0)
def Kl (e1:Int):Option (fB aI Unit):=
 some (.bad (aI.mk e1))
def uh (s1:List aA) (name1:Str):Nat→Int→Option (fB aI ah)
 | 0,_=>none
 | bX + 1,x1=>
  if decide (x1 < (s1.length:Int)) then
   av (idx s1 x1) fun e1=>
   if e1.name == name1 then
    some (.ok e1.value)
   else
    uh s1 name1 bX (cZ (x1 + 1))
  else
   gD (Kl 10) (fun e2=>some (.bad e2)) fun _=>
   some (.ok (ah.mk 0 false 0 ([]:Str) [] []))
def Cn (s1:List aA) (name1:Str):Option (fB aI ah):=
 uh s1 name1 BIG 0
def wS (s1:Str):Option ah:=
 some (ah.mk 3 false 0 s1 [] [])
def oH (v1:ah) (kK:Int):Option Bool:=
 some (v1.kind == kK)
def gK (ok1:Bool) (e1:Int):Option (fB aI Unit):=
 if !ok1 then
  gD (Kl e1) (fun e2=>some (.bad e2)) fun _=>
  some (.ok ())
 else
  some (.ok ())
def kr (s1:List Str) (v1:Str):Nat→Int→Option Int
 | 0,_=>none
 | bX + 1,i1=>
  if decide (i1 < (s1.length:Int)) then
   av (idx s1 i1) fun e1=>
   if v1 == e1 then
    some i1
   else
    kr s1 v1 bX (cZ (i1 + 1))
  else
   some (-1)
def oO (s1:List Str) (v1:Str):Option Int:=
 kr s1 v1 BIG 0
def vK (lH:ah→Option ah) (v1:ah):Nat→Int→ah→Option ah
 | 0,_,_=>none
 | bX + 1,x2,bn=>
  if decide (x2 < (v1.aW.length:Int)) then
   av (idx v1.aW x2) fun e1=>
   av (lH e1) fun x3=>
   av (app bn.aW [x3]) fun x4=>
   vK lH v1 bX (cZ (x2 + 1)) (ah.mk bn.kind bn.eB bn.gI bn.fM x4 bn.keys)
  else
   some bn
def Bd (lH:ah→Option ah) (v1:ah):Option ah:=
 av (dW v1.keys) fun x1=>
 vK lH v1 BIG 0 (ah.mk v1.kind v1.eB v1.gI v1.fM [] x1)
def mG :Nat→ah→Option ah
 | 0,_=>none
 | k + 1,tO=>Bd (mG k) tO
def yV (tO:ah):Option ah:=mG BIG tO
def J9 (v1:ah) (key1:Str):Option (ah × Bool):=
 av (oO v1.keys key1) fun i1=>
 if ((v1.kind != 5) || (decide (i1 < 0))) || (decide ((v1.aW.length:Int)≤i1)) then
  some ((ah.mk 0 false 0 ([]:Str) [] []),false)
 else
  av (idx v1.aW i1) fun e1=>
  av (yV e1) fun x1=>
  some (x1,true)
def GI (m1:ah) (key1:ah):Option (fB aI ah):=
 av (oH m1 5) fun x1=>
 av (
   if x1 then
    oH key1 3
   else
    some false) fun b1=>
 gD (gK b1 9) (fun e1=>some (.bad e1)) fun _=>
 fU (J9 m1 key1.fM) fun x3 ok1=>
 gD (gK ok1 8) (fun e2=>some (.bad e2)) fun _=>
 some (.ok x3)
def GJ (a1:ah) (i1:ah):Option (fB aI ah):=
 av (oH a1 4) fun x1=>
 av (
   if x1 then
    oH i1 2
   else
    some false) fun b1=>
 if b1 then
  gD (gK ((decide (0≤i1.gI)) && (decide (i1.gI < (a1.aW.length:Int)))) 8) (fun e1=>some (.bad e1)) fun _=>
  av (idx a1.aW i1.gI) fun e2=>
  some (.ok e2)
 else
  gD (GI a1 i1) (fun e3=>some (.bad e3)) fun x3=>
  some (.ok x3)
def LZ (name1:Str):Option Int:=
 if name1 == ([108,101,110]:Str) then
  some 1
 else
  if name1 == ([108,111,119,101,114]:Str) then
   some 1
  else
   if name1 == ([117,112,112,101,114]:Str) then
    some 1
   else
    if name1 == ([115,116,114,105,110,103]:Str) then
     some 1
    else
     if name1 == ([105,110,116]:Str) then
      some 1
     else
      if name1 == ([107,101,121,115]:Str) then
       some 1
      else
       if name1 == ([99,111,110,116,97,105,110,115]:Str) then
        some 2
       else
        if name1 == ([106,111,105,110]:Str) then
         some 2
        else
         if name1 == ([115,112,108,105,116]:Str) then
          some 2
         else
          if name1 == ([115,116,97,114,116,115,119,105,116,104]:Str) then
           some 2
          else
           if name1 == ([101,110,100,115,119,105,116,104]:Str) then
            some 2
           else
            if name1 == ([100,101,102,97,117,108,116]:Str) then
             some 2
            else
             some 0
def uj (n1:Int):Option ah:=
 some (ah.mk 2 false n1 ([]:Str) [] [])
def GK (l1:List ah):Option ah:=
 some (ah.mk 4 false 0 ([]:Str) l1 [])
def CZ (l1:List Str):Nat→Int→ah→Option ah
 | 0,_,_=>none
 | bX + 1,x1,bn=>
  if decide (x1 < (l1.length:Int)) then
   av (idx l1 x1) fun s1=>
   av (wS s1) fun x2=>
   av (app bn.aW [x2]) fun x3=>
   CZ l1 bX (cZ (x1 + 1)) (ah.mk bn.kind bn.eB bn.gI bn.fM x3 bn.keys)
  else
   some bn
def Kk (l1:List Str):Option ah:=
 CZ l1 BIG 0 (ah.mk 4 false 0 ([]:Str) [] [])
def vY (b1:Bool):Option Str:=
 if b1 then
  some ([116,114,117,101]:Str)
 else
  some ([102,97,108,115,101]:Str)
def strconv_FormatBool (b1:Bool):Option Str:=
 vY b1
def strconv_Itoa (n1:Int):Option Str:=
 if -9223372036854775808≤n1∧n1≤9223372036854775807 then some (Y6 n1) else none
def nY (s1:Str):Nat→Int→Str→Option Str
 | 0,_,_=>none
 | bX + 1,i1,b2=>
  if decide (i1 < (s1.length:Int)) then
   av (idx s1 i1) fun c1=>
   if ((c1.toNat:Int) == 34) || ((c1.toNat:Int) == 92) then
    av (app b2 [92]) fun b3=>
    av (app b3 [c1]) fun b4=>
    nY s1 bX (cZ (i1 + 1)) b4
   else
    if (c1.toNat:Int) == 10 then
     av (app b2 ([92,110]:Str)) fun b5=>
     nY s1 bX (cZ (i1 + 1)) b5
    else
     if (c1.toNat:Int) == 9 then
      av (app b2 ([92,116]:Str)) fun b6=>
      nY s1 bX (cZ (i1 + 1)) b6
     else
      if (decide (32≤(c1.toNat:Int))) && (decide ((c1.toNat:Int)≤126)) then
       av (app b2 [c1]) fun b7=>
       nY s1 bX (cZ (i1 + 1)) b7
      else
       av (app b2 ([92,120]:Str)) fun b8=>
       av (idx ([48,49,50,51,52,53,54,55,56,57,97,98,99,100,101,102]:Str) ((c1 / 16).toNat:Int)) fun x1=>
       av (app b8 [x1]) fun b9=>
       av (idx ([48,49,50,51,52,53,54,55,56,57,97,98,99,100,101,102]:Str) ((c1 % 16).toNat:Int)) fun x2=>
       av (app b9 [x2]) fun b10=>
       nY s1 bX (cZ (i1 + 1)) b10
  else
   app b2 [34]
def Bt (s1:Str):Option Str:=
 av (app [] [34]) fun b1=>
 nY s1 BIG 0 b1
def strings_Join (l1:List Str) (t1:Str):Option Str:=
 if l1.length≤140737488355328∧(OY l1 t1).length≤140737488355328 then some (OY l1 t1) else none
def rU (fF:ah→Option Str) (v1:ah):Nat→List Str→Int→Option Str
 | 0,_,_=>none
 | bX + 1,oQ,i1=>
  if decide (i1 < (v1.aW.length:Int)) then
   av (idx v1.aW i1) fun e1=>
   if v1.kind == 5 then
    av (idx v1.keys i1) fun e2=>
    av (Bt e2) fun x4=>
    av (app x4 ([58,32]:Str)) fun x5=>
    av (fF e1) fun x6=>
    av (app x5 x6) fun x7=>
    av (app oQ ([x7]:List Str)) fun LC=>
    rU fF v1 bX LC (cZ (i1 + 1))
   else
    av (fF e1) fun x8=>
    av (app oQ ([x8]:List Str)) fun LB=>
    rU fF v1 bX LB (cZ (i1 + 1))
  else
   av (strings_Join oQ ([44,32]:Str)) fun s3=>
   if v1.kind == 5 then
    av (app ([123]:Str) s3) fun x9=>
    app x9 ([125]:Str)
   else
    av (app ([91]:Str) s3) fun Li=>
    app Li ([93]:Str)
def wN (fF:ah→Option Str) (v1:ah):Nat→List Str→Int→Option Str
 | 0,_,_=>none
 | Jj + 1,E8,i2=>
  if decide (i2 < (v1.aW.length:Int)) then
   av (idx v1.aW i2) fun e3=>
   av (idx v1.keys i2) fun e4=>
   av (Bt e4) fun YB=>
   av (app YB ([58,32]:Str)) fun Zv=>
   av (fF e3) fun XQ=>
   av (app Zv XQ) fun Qg=>
   av (app E8 ([Qg]:List Str)) fun X_=>
   wN fF v1 Jj X_ (cZ (i2 + 1))
  else
   av (strings_Join E8 ([44,32]:Str)) fun s5=>
   av (app ([123]:Str) s5) fun XG=>
   app XG ([125]:Str)
def Cc (fF:ah→Option Str) (v1:ah):Option Str:=
 if v1.kind == 1 then
  strconv_FormatBool v1.eB
 else
  if v1.kind == 2 then
   strconv_Itoa v1.gI
  else
   if v1.kind == 3 then
    Bt v1.fM
   else
    if v1.kind == 4 then
     rU fF v1 BIG [] 0
    else
     if v1.kind == 5 then
      wN fF v1 BIG [] 0
     else
      some ([110,117,108,108]:Str)
def uz :Nat→ah→Option Str
 | 0,_=>none
 | k + 1,tO=>Cc (uz k) tO
def EW (tO:ah):Option Str:=uz BIG tO
def Gb (v1:ah):Option (Str × Int):=
 if (v1.kind == 4) || (v1.kind == 5) then
  some (([]:Str),9)
 else
  av (l5 v1) fun e1=>
  if e1 != 0 then
   some (([]:Str),e1)
  else
   if v1.kind == 0 then
    some (([]:Str),0)
   else
    if v1.kind == 3 then
     some (v1.fM,0)
    else
     av (EW v1) fun x1=>
     some (x1,0)
def wB (s1:Str) (lo1:UInt8) (hi1:UInt8) (by1:Int):Nat→Int→Str→Option Str
 | 0,_,_=>none
 | bX + 1,i1,b1=>
  if decide (i1 < (s1.length:Int)) then
   av (idx s1 i1) fun x1=>
   av (
     if decide ((lo1.toNat:Int)≤(x1.toNat:Int)) then
      av (idx s1 i1) fun x2=>
      some (decide ((x2.toNat:Int)≤(hi1.toNat:Int)))
     else
      some false) fun b2=>
   if b2 then
    av (idx s1 i1) fun x3=>
    av (app b1 [(Ft.byteOf (cZ ((x3.toNat:Int) + by1)))]) fun b3=>
    wB s1 lo1 hi1 by1 bX (cZ (i1 + 1)) b3
   else
    av (idx s1 i1) fun x4=>
    av (app b1 [x4]) fun b4=>
    wB s1 lo1 hi1 by1 bX (cZ (i1 + 1)) b4
  else
   some b1
def EK (s1:Str) (lo1:UInt8) (hi1:UInt8) (by1:Int):Option Str:=
 wB s1 lo1 hi1 by1 BIG 0 []
def strconv_Atoi (s1:Str):Option (Int × Option Nat):=
 if s1.length≤281474976710656 then some ((UM s1).2,if (UM s1).1=0 then none else some 321) else none
def Jl (s1:Str):Option (Int × Bool):=
 fU (strconv_Atoi s1) fun n1 Er=>
 av (
   if Er.isSome then
    some true
   else
    av (strconv_Itoa n1) fun x1=>
    some (!(x1 == s1))) fun b1=>
 if (b1 || (decide (n1 < (-9007199254740992)))) || (decide (9007199254740992 < n1)) then
  some (0,false)
 else
  some (n1,true)
def RB (name1:Str) (v1:ah):Option (fB aI ah):=
 if name1 == ([108,101,110]:Str) then
  av (oH v1 3) fun x1=>
  av (
    if x1 then
     some true
    else
     oH v1 4) fun b1=>
  av (
    if b1 then
     some true
    else
     oH v1 5) fun b2=>
  gD (gK b2 9) (fun e1=>some (.bad e1)) fun _=>
  av (uj (cZ ((v1.fM.length:Int) + (v1.aW.length:Int)))) fun x4=>
  some (.ok x4)
 else
  if name1 == ([107,101,121,115]:Str) then
   av (oH v1 5) fun x5=>
   gD (gK x5 9) (fun e2=>some (.bad e2)) fun _=>
   av (Kk v1.keys) fun x6=>
   some (.ok x6)
  else
   if name1 == ([115,116,114,105,110,103]:Str) then
    fU (Gb v1) fun t1 e3=>
    gD (gK (e3 == 0) e3) (fun e4=>some (.bad e4)) fun _=>
    av (wS t1) fun x7=>
    some (.ok x7)
   else
    av (oH v1 3) fun x8=>
    gD (gK x8 9) (fun e5=>some (.bad e5)) fun _=>
    if name1 == ([108,111,119,101,114]:Str) then
     av (EK v1.fM 65 90 32) fun x9=>
     av (wS x9) fun Il=>
     some (.ok Il)
    else
     if name1 == ([117,112,112,101,114]:Str) then
      av (EK v1.fM 97 122 (-32)) fun Li=>
      av (wS Li) fun SB=>
      some (.ok SB)
     else
      fU (Jl v1.fM) fun n1 ok1=>
      gD (gK ok1 1) (fun e6=>some (.bad e6)) fun _=>
      av (uj n1) fun YB=>
      some (.ok YB)
def vJ (b1:Bool):Option Int:=
 if b1 then
  some 1
 else
  some 0
def dw (mD:List ah) (oP:List ah) (Jv:ah→ah→Option Int):Nat→Int→Option Int
 | 0,_=>none
 | bX + 1,i1=>
  if decide (i1 < (mD.length:Int)) then
   av (idx mD i1) fun e1=>
   if decide ((oP.length:Int)≤i1) then
    some 1
   else
    av (idx oP i1) fun e2=>
    av (Jv e1 e2) fun c1=>
    if c1 != 0 then
     some c1
    else
     dw mD oP Jv bX (cZ (i1 + 1))
  else
   if decide ((mD.length:Int) < (oP.length:Int)) then
    some (-1)
   else
    some 0
def b_ (mD:List ah) (oP:List ah) (Jv:ah→ah→Option Int):Option Int:=
 dw mD oP Jv BIG 0
def dZ (mD:List Str) (oP:List Str) (Jv:Str→Str→Option Int):Nat→Int→Option Int
 | 0,_=>none
 | bX + 1,i1=>
  if decide (i1 < (mD.length:Int)) then
   av (idx mD i1) fun agl=>
   if decide ((oP.length:Int)≤i1) then
    some 1
   else
    av (idx oP i1) fun agk=>
    av (Jv agl agk) fun c1=>
    if c1 != 0 then
     some c1
    else
     dZ mD oP Jv bX (cZ (i1 + 1))
  else
   if decide ((mD.length:Int) < (oP.length:Int)) then
    some (-1)
   else
    some 0
def eP (mD:List Str) (oP:List Str) (Jv:Str→Str→Option Int):Option Int:=
 dZ mD oP Jv BIG 0
def yj (kQ:ah→ah→Option Int) (a1:ah) (b1:ah):Option Int:=
 av (cmp_Compare_int a1.kind b1.kind) fun c1=>
 if c1 != 0 then
  some c1
 else
  if a1.kind == 1 then
   av (vJ a1.eB) fun x1=>
   av (vJ b1.eB) fun x2=>
   cmp_Compare_int x1 x2
  else
   if a1.kind == 2 then
    cmp_Compare_int a1.gI b1.gI
   else
    if a1.kind == 3 then
     nM a1.fM b1.fM
    else
     if a1.kind == 4 then
      b_ a1.aW b1.aW kQ
     else
      if a1.kind == 5 then
       av (eP a1.keys b1.keys jY) fun c2=>
       if c2 != 0 then
        some c2
       else
        b_ a1.aW b1.aW kQ
      else
       some 0
def jR :Nat→ah→ah→Option Int
 | 0,_,_=>none
 | k + 1,uy,oz=>yj (jR k) uy oz
def xK (uy:ah) (oz:ah):Option Int:=jR BIG uy oz
def pQ (a1:ah) (b1:ah):Option Bool:=
 av (xK a1 b1) fun x1=>
 some (x1 == 0)
def uR (a1:ah) (b1:ah) (Al:Int):Option Bool:=
 some ((a1.kind == Al) && (b1.kind == Al))
def strings_Contains (s1:Str) (t1:Str):Option Bool:=
 if s1.length < 4294967281 then some (Cm s1 t1).isSome else none
def wT (a1:ah) (b1:ah):Nat→Int→Option (fB aI Bool)
 | 0,_=>none
 | bX + 1,x2=>
  if decide (x2 < (a1.aW.length:Int)) then
   av (idx a1.aW x2) fun e1=>
   av (pQ e1 b1) fun x3=>
   if x3 then
    some (.ok true)
   else
    wT a1 b1 bX (cZ (x2 + 1))
  else
   some (.ok false)
def Fh (a1:ah) (b1:ah):Option (fB aI Bool):=
 av (oH a1 4) fun x1=>
 if x1 then
  wT a1 b1 BIG 0
 else
  av (uR a1 b1 3) fun x4=>
  if x4 then
   av (strings_Contains a1.fM b1.fM) fun x5=>
   some (.ok x5)
  else
   av (oH a1 5) fun x6=>
   av (
     if x6 then
      oH b1 3
     else
      some false) fun b2=>
   gD (gK b2 9) (fun e2=>some (.bad e2)) fun _=>
   fU (J9 a1 b1.fM) fun x8 ok1=>
   some (.ok ok1)
def kS (b1:Bool):Option ah:=
 some (ah.mk 1 b1 0 ([]:Str) [] [])
def z8 (a1:ah) (b1:ah):Nat→Int→List Str→Int→Option (fB aI ah)
 | 0,_,_,_=>none
 | bX + 1,n1,l1,x3=>
  if decide (x3 < (a1.aW.length:Int)) then
   av (idx a1.aW x3) fun e2=>
   av (oH e2 3) fun x4=>
   gD (gK x4 9) (fun e3=>some (.bad e3)) fun _=>
   av (app l1 ([e2.fM]:List Str)) fun l2=>
   z8 a1 b1 bX (cZ (n1 + (e2.fM.length:Int))) l2 (cZ (x3 + 1))
  else
   gD (gK (decide ((cZ (n1 + (cZ ((b1.fM.length:Int) * (if 0 < (cZ ((l1.length:Int) - 1)) then (cZ ((l1.length:Int) - 1)) else 0)))))≤4096)) 3) (fun e4=>some (.bad e4)) fun _=>
   av (strings_Join l1 b1.fM) fun x5=>
   av (wS x5) fun x6=>
   some (.ok x6)
def Jm (a1:ah) (b1:ah):Option (fB aI ah):=
 av (oH a1 4) fun x1=>
 av (
   if x1 then
    oH b1 3
   else
    some false) fun b2=>
 gD (gK b2 9) (fun e1=>some (.bad e1)) fun _=>
 z8 a1 b1 BIG 0 [] 0
def strings_HasPrefix (s1:Str) (nA:Str):Option Bool:=
 oG s1 nA
def strings_HasSuffix (s1:Str) (ny:Str):Option Bool:=
 oF s1 ny
def strings_Split (s1:Str) (t1:Str):Option (List Str):=
 if s1.length < 4294967281∧t1≠[] then some (Gg t1 (s1.length + 1) s1) else none
def Ry (name1:Str) (a1:ah) (b1:ah):Option (fB aI ah):=
 if name1 == ([100,101,102,97,117,108,116]:Str) then
  av (oH a1 0) fun x1=>
  if x1 then
   some (.ok b1)
  else
   some (.ok a1)
 else
  if name1 == ([99,111,110,116,97,105,110,115]:Str) then
   gD (Fh a1 b1) (fun e1=>some (.bad e1)) fun x2=>
   av (kS x2) fun x3=>
   some (.ok x3)
  else
   if name1 == ([106,111,105,110]:Str) then
    gD (Jm a1 b1) (fun e2=>some (.bad e2)) fun x4=>
    some (.ok x4)
   else
    av (uR a1 b1 3) fun x5=>
    gD (gK x5 9) (fun e3=>some (.bad e3)) fun _=>
    if name1 == ([115,116,97,114,116,115,119,105,116,104]:Str) then
     av (strings_HasPrefix a1.fM b1.fM) fun x6=>
     av (kS x6) fun x7=>
     some (.ok x7)
    else
     if name1 == ([101,110,100,115,119,105,116,104]:Str) then
      av (strings_HasSuffix a1.fM b1.fM) fun x8=>
      av (kS x8) fun x9=>
      some (.ok x9)
     else
      gD (gK (!(b1.fM == ([]:Str))) 1) (fun e4=>some (.bad e4)) fun _=>
      av (strings_Split a1.fM b1.fM) fun l1=>
      gD (gK (decide ((l1.length:Int)≤1024)) 3) (fun e5=>some (.bad e5)) fun _=>
      av (Kk l1) fun Il=>
      some (.ok Il)
def AL (v1:ah):Option (fB aI Bool):=
 av (oH v1 1) fun x1=>
 gD (gK x1 9) (fun e1=>some (.bad e1)) fun _=>
 some (.ok v1.eB)
def LX (op1:Str) (v1:ah):Option (fB aI ah):=
 if op1 == ([33]:Str) then
  gD (AL v1) (fun e1=>some (.bad e1)) fun x1=>
  av (kS (!x1)) fun x2=>
  some (.ok x2)
 else
  av (oH v1 2) fun x3=>
  gD (gK x3 9) (fun e2=>some (.bad e2)) fun _=>
  av (uj (cZ (0 - v1.gI))) fun x4=>
  some (.ok x4)
def AQ (a1:ah) (b1:ah):Option (fB aI Int):=
 av (uR a1 b1 2) fun x1=>
 av (
   if x1 then
    some true
   else
    uR a1 b1 3) fun b2=>
 gD (gK b2 9) (fun e1=>some (.bad e1)) fun _=>
 av (xK a1 b1) fun x3=>
 some (.ok x3)
def zm (n1:Int):Option (fB aI ah):=
 gD (gK ((decide ((-9007199254740992)≤n1)) && (decide (n1≤9007199254740992))) 11) (fun e1=>some (.bad e1)) fun _=>
 av (uj n1) fun x1=>
 some (.ok x1)
def Rz (a1:ah) (b1:ah):Option (fB aI ah):=
 av (uR a1 b1 2) fun x1=>
 if x1 then
  gD (zm (cZ (a1.gI + b1.gI))) (fun e1=>some (.bad e1)) fun x2=>
  some (.ok x2)
 else
  av (uR a1 b1 3) fun x3=>
  if x3 then
   gD (gK (decide ((cZ ((a1.fM.length:Int) + (b1.fM.length:Int)))≤4096)) 3) (fun e2=>some (.bad e2)) fun _=>
   av (app a1.fM b1.fM) fun x4=>
   av (wS x4) fun x5=>
   some (.ok x5)
  else
   av (uR a1 b1 4) fun x6=>
   gD (gK x6 9) (fun e3=>some (.bad e3)) fun _=>
   gD (gK (decide ((cZ ((a1.aW.length:Int) + (b1.aW.length:Int)))≤1024)) 3) (fun e4=>some (.bad e4)) fun _=>
   av (app [] a1.aW) fun l1=>
   av (app l1 b1.aW) fun x7=>
   av (GK x7) fun x8=>
   some (.ok x8)
def MP (n1:Int):Option (BitVec 64):=
 if decide (n1 < 0) then
  some (-(BitVec.ofInt 64 n1))
 else
  some (BitVec.ofInt 64 n1)
def Gt (a1:Int) (b1:Int):Option jQ:=
 av (MP a1) fun x1=>
 av (MP b1) fun y1=>
 av (some ((x1 &&& (4294967295:BitVec 64)) * (y1 &&& (4294967295:BitVec 64)))) fun Rf=>
 av (some ((x1 >>> 32) * (y1 &&& (4294967295:BitVec 64)))) fun x2=>
 av (some ((x1 &&& (4294967295:BitVec 64)) * (y1 >>> 32))) fun x3=>
 av (some ((x2 + (Rf >>> 32)) &&& (4294967295:BitVec 64))) fun x4=>
 av (some (((x1 >>> 32) * (y1 >>> 32)) + ((x2 + (Rf >>> 32)) >>> 32))) fun x5=>
 av (some (((x3 + x4) <<< 32) ||| (Rf &&& (4294967295:BitVec 64)))) fun x6=>
 some (jQ.mk ([(x5 + ((x3 + x4) >>> 32)),x6]:List (BitVec 64)) ((!((decide (a1 < 0)) == (decide (b1 < 0)))) && (!decide (([((x5 + ((x3 + x4) >>> 32)).toNat:Int),(x6.toNat:Int)]:List Int)=([0,0]:List Int)))))
def yN (p1:jQ):Option (Int × Bool):=
 if ((p1.half.getD 0 0).toNat:Int) != 0 then
  some (0,false)
 else
  if p1.neg && (decide (((p1.half.getD 1 0).toNat:Int)≤9223372036854775808)) then
   some ((cZ ((-(p1.half.getD 1 0)).toNat:Int)),true)
  else
   if (!p1.neg) && (decide (((p1.half.getD 1 0).toNat:Int)≤9223372036854775807)) then
    some ((cZ ((p1.half.getD 1 0).toNat:Int)),true)
   else
    some (0,false)
def Vj (adj:Bool):Option Int:=
 if adj then
  some (-9223372036854775808)
 else
  some 9223372036854775807
def Vk (a1:Int) (b1:Int):Option Int:=
 av (Gt a1 b1) fun x1=>
 fU (yN x1) fun n1 ok1=>
 if ok1 then
  some n1
 else
  Vj x1.neg
def Co (op1:Str) (a1:ah) (b1:ah):Option (fB aI ah):=
 av (uR a1 b1 2) fun x1=>
 gD (gK x1 9) (fun e1=>some (.bad e1)) fun _=>
 if op1 == ([45]:Str) then
  gD (zm (cZ (a1.gI - b1.gI))) (fun e2=>some (.bad e2)) fun x2=>
  some (.ok x2)
 else
  if op1 == ([42]:Str) then
   av (Vk a1.gI b1.gI) fun x3=>
   gD (zm x3) (fun e3=>some (.bad e3)) fun x4=>
   some (.ok x4)
  else
   gD (gK (b1.gI != 0) 12) (fun e4=>some (.bad e4)) fun _=>
   if op1 == ([47]:Str) then
    av (chk (!(b1.gI == 0))) fun _=>
    gD (zm (cZ ((a1.gI:Int).tdiv b1.gI))) (fun e5=>some (.bad e5)) fun x5=>
    some (.ok x5)
   else
    av (chk (!(b1.gI == 0))) fun _=>
    av (uj ((a1.gI:Int).tmod b1.gI)) fun x6=>
    some (.ok x6)
def yh (bS:Int) (x1:ah):Int:=if (x1.kind == 4 || x1.kind == 5) && ((x1.aW.length:Int) == 0) then cZ (bS + 1) else bS
def zu (ad3:Int) (bS:Int) (x1:ah):Option (Bool × Int):=
 some (true,if ad3 < yh bS x1 then yh bS x1 else ad3)
def Ga (v1:ah):Option Int:=
 fU (F9 zu 0 v1 1) fun _ s1=>
 some s1
def Bc (y1:aA) (c1:aA):Option Bool:=
 some (y1.name == c1.name)
def jl (s1:List aA) (f1:aA→Option Bool):Nat→Int→Option Int
 | 0,_=>none
 | bX + 1,i1=>
  if decide (i1 < (s1.length:Int)) then
   av (idx s1 i1) fun e1=>
   av (f1 e1) fun x1=>
   if x1 then
    some i1
   else
    jl s1 f1 bX (cZ (i1 + 1))
  else
   some (-1)
def jN (s1:List aA) (f1:aA→Option Bool):Option Int:=
 jl s1 f1 BIG 0
def kL (s1:List aA) (f1:aA→Option Bool):Option Bool:=
 av (jN s1 f1) fun x1=>
 some (decide (0≤x1))
def IE (dL:List aA) (i1:Int):Option Int:=
 av (idx dL i1) fun e1=>
 if (decide ((e1.name.length:Int) < 1)) || (decide (64 < (e1.name.length:Int))) then
  some 1
 else
  av (l5 e1.value) fun e2=>
  if e2 != 0 then
   some e2
  else
   av (Ga e1.value) fun x1=>
   if decide (16≤x1) then
    some 13
   else
    av (sl dL 0 i1) fun x2=>
    av (kL x2 (fun z0=>Bc z0 e1)) fun x3=>
    if x3 then
     some 7
    else
     some 0
def gH (s1:List aA):Option (List aA):=
 app [] s1
def OG (a1:aA) (b1:aA):Option Int:=
 jY a1.name b1.name
def CB (yC:List aA):Nat→Int→ah→Option (ah × Int)
 | 0,_,_=>none
 | Jj + 1,x1,bn=>
  if decide (x1 < (yC.length:Int)) then
   av (idx yC x1) fun e2=>
   av (app bn.keys ([e2.name]:List Str)) fun x2=>
   av (yV e2.value) fun x3=>
   av (app bn.aW [x3]) fun x4=>
   CB yC Jj (cZ (x1 + 1)) (ah.mk bn.kind bn.eB bn.gI bn.fM x4 x2)
  else
   some (bn,0)
def CG (dL:List aA):Nat→Int→Option (ah × Int)
 | 0,_=>none
 | bX + 1,i1=>
  if decide (i1 < (dL.length:Int)) then
   av (IE dL i1) fun e1=>
   if e1 != 0 then
    some ((ah.mk 0 false 0 ([]:Str) [] []),e1)
   else
    CG dL bX (cZ (i1 + 1))
  else
   av (gH dL) fun YQ=>
   av (aa9 (fun x=>x.name) YQ) fun yC=>
   CB yC BIG 0 (ah.mk 5 false 0 ([]:Str) [] [])
def Nv (dL:List aA):Option (ah × Int):=
 if decide (1024 < (dL.length:Int)) then
  some ((ah.mk 0 false 0 ([]:Str) [] []),3)
 else
  CG dL BIG 0
def zY (bJ:List aA→aj→Option (fB aI ah)) (dD:List aA→aj→Option (fB aI ah)) (dA:List aA→List aj→Option (fB aI (List ah))) (cB:List aA→aj→Option (fB aI ah)) (bZ:List aA→aj→Option (fB aI ah)) (s1:List aA) (e1:aj):Option (fB aI ah):=
 if e1.kind == 1 then
  some (.ok e1.value)
 else
  if e1.kind == 2 then
   gD (Cn s1 e1.name) (fun e2=>some (.bad e2)) fun x1=>
   some (.ok x1)
  else
   if e1.kind == 3 then
    av (idx e1.args 0) fun e3=>
    gD (bJ s1 e3) (fun e4=>some (.bad e4)) fun x2=>
    av (wS e1.name) fun x3=>
    gD (GI x2 x3) (fun e5=>some (.bad e5)) fun x4=>
    some (.ok x4)
   else
    if e1.kind == 4 then
     av (idx e1.args 0) fun e6=>
     gD (bJ s1 e6) (fun e7=>some (.bad e7)) fun x5=>
     av (idx e1.args 1) fun e8=>
     gD (bJ s1 e8) (fun e9=>some (.bad e9)) fun x6=>
     gD (GJ x5 x6) (fun e10=>some (.bad e10)) fun x7=>
     some (.ok x7)
    else
     if e1.kind == 5 then
      gD (dD s1 e1) (fun e11=>some (.bad e11)) fun x8=>
      some (.ok x8)
     else
      if e1.kind == 6 then
       av (idx e1.args 0) fun e12=>
       gD (bJ s1 e12) (fun e13=>some (.bad e13)) fun x9=>
       gD (LX e1.name x9) (fun e14=>some (.bad e14)) fun Il=>
       some (.ok Il)
      else
       if e1.kind == 7 then
        gD (cB s1 e1) (fun e15=>some (.bad e15)) fun Li=>
        some (.ok Li)
       else
        if e1.kind == 8 then
         av (idx e1.args 0) fun e16=>
         gD (bJ s1 e16) (fun e17=>some (.bad e17)) fun SB=>
         gD (AL SB) (fun e18=>some (.bad e18)) fun YB=>
         if YB then
          av (idx e1.args 1) fun e19=>
          gD (bJ s1 e19) (fun e20=>some (.bad e20)) fun Zv=>
          some (.ok Zv)
         else
          av (idx e1.args 2) fun e21=>
          gD (bJ s1 e21) (fun e22=>some (.bad e22)) fun XQ=>
          some (.ok XQ)
        else
         if e1.kind == 9 then
          gD (dA s1 e1.args) (fun e23=>some (.bad e23)) fun Qg=>
          av (GK Qg) fun XG=>
          av (l5 XG) fun Zu=>
          gD (gK (Zu == 0) 13) (fun e24=>some (.bad e24)) fun _=>
          some (.ok XG)
         else
          gD (bZ s1 e1) (fun e25=>some (.bad e25)) fun x19=>
          some (.ok x19)
def zZ (bJ:List aA→aj→Option (fB aI ah)) (dD:List aA→aj→Option (fB aI ah)) (dA:List aA→List aj→Option (fB aI (List ah))) (cB:List aA→aj→Option (fB aI ah)) (bZ:List aA→aj→Option (fB aI ah)) (s1:List aA) (e1:aj):Option (fB aI ah):=
 av (LZ e1.name) fun n1=>
 gD (gK (decide (0 < n1)) 10) (fun e2=>some (.bad e2)) fun _=>
 gD (gK ((e1.args.length:Int) == n1) 1) (fun e3=>some (.bad e3)) fun _=>
 gD (dA s1 e1.args) (fun e4=>some (.bad e4)) fun args1=>
 if n1 == 1 then
  av (idx args1 0) fun e5=>
  gD (RB e1.name e5) (fun e6=>some (.bad e6)) fun x1=>
  some (.ok x1)
 else
  av (idx args1 0) fun e7=>
  av (idx args1 1) fun e8=>
  gD (Ry e1.name e7 e8) (fun e9=>some (.bad e9)) fun x2=>
  some (.ok x2)
def vv (bJ:List aA→aj→Option (fB aI ah)) (s1:List aA) (l1:List aj):Nat→List ah→Int→Option (fB aI (List ah))
 | 0,_,_=>none
 | bX + 1,bn,x1=>
  if decide (x1 < (l1.length:Int)) then
   av (idx l1 x1) fun e1=>
   gD (bJ s1 e1) (fun e2=>some (.bad e2)) fun x2=>
   av (app bn [x2]) fun kY=>
   vv bJ s1 l1 bX kY (cZ (x1 + 1))
  else
   some (.ok bn)
def AP (bJ:List aA→aj→Option (fB aI ah)) (dD:List aA→aj→Option (fB aI ah)) (dA:List aA→List aj→Option (fB aI (List ah))) (cB:List aA→aj→Option (fB aI ah)) (bZ:List aA→aj→Option (fB aI ah)) (s1:List aA) (l1:List aj):Option (fB aI (List ah)):=
 vv bJ s1 l1 BIG [] 0
def xF (bJ:List aA→aj→Option (fB aI ah)) (dD:List aA→aj→Option (fB aI ah)) (dA:List aA→List aj→Option (fB aI (List ah))) (cB:List aA→aj→Option (fB aI ah)) (bZ:List aA→aj→Option (fB aI ah)) (s1:List aA) (e1:aj):Option (fB aI ah):=
 av (idx e1.args 0) fun e2=>
 gD (bJ s1 e2) (fun e3=>some (.bad e3)) fun x1=>
 if (e1.name == ([38,38]:Str)) || (e1.name == ([124,124]:Str)) then
  gD (AL x1) (fun e4=>some (.bad e4)) fun x2=>
  if x2 == (e1.name == ([124,124]:Str)) then
   some (.ok x1)
  else
   av (idx e1.args 1) fun e5=>
   gD (bJ s1 e5) (fun e6=>some (.bad e6)) fun x3=>
   gD (AL x3) (fun e7=>some (.bad e7)) fun x4=>
   av (kS x4) fun x5=>
   some (.ok x5)
 else
  av (idx e1.args 1) fun e8=>
  gD (bJ s1 e8) (fun e9=>some (.bad e9)) fun x6=>
  if e1.name == ([61,61]:Str) then
   av (pQ x1 x6) fun x7=>
   av (kS x7) fun x8=>
   some (.ok x8)
  else
   if e1.name == ([33,61]:Str) then
    av (pQ x1 x6) fun x9=>
    av (kS (!x9)) fun Il=>
    some (.ok Il)
   else
    if e1.name == ([60]:Str) then
     gD (AQ x1 x6) (fun e10=>some (.bad e10)) fun Li=>
     av (kS (decide (Li < 0))) fun SB=>
     some (.ok SB)
    else
     if e1.name == ([60,61]:Str) then
      gD (AQ x1 x6) (fun e11=>some (.bad e11)) fun YB=>
      av (kS (decide (YB≤0))) fun Zv=>
      some (.ok Zv)
     else
      if e1.name == ([62]:Str) then
       gD (AQ x1 x6) (fun e12=>some (.bad e12)) fun XQ=>
       av (kS (decide (0 < XQ))) fun Qg=>
       some (.ok Qg)
      else
       if e1.name == ([62,61]:Str) then
        gD (AQ x1 x6) (fun e13=>some (.bad e13)) fun XG=>
        av (kS (decide (0≤XG))) fun Zu=>
        some (.ok Zu)
       else
        if e1.name == ([43]:Str) then
         gD (Rz x1 x6) (fun e14=>some (.bad e14)) fun x19=>
         some (.ok x19)
        else
         gD (Co e1.name x1 x6) (fun e15=>some (.bad e15)) fun x20=>
         some (.ok x20)
def qz (e1:aj) (x1:List ah):Nat→List aA→Int→Option (fB aI ah)
 | 0,_,_=>none
 | bX + 1,dL,i1=>
  if decide (i1 < (x1.length:Int)) then
   av (idx x1 i1) fun e3=>
   av (idx e1.keys i1) fun e4=>
   av (app dL [(aA.mk e4 e3)]) fun aaL=>
   qz e1 x1 bX aaL (cZ (i1 + 1))
  else
   fU (Nv dL) fun x2 wF=>
   gD (gK (wF == 0) wF) (fun e5=>some (.bad e5)) fun _=>
   some (.ok x2)
def wz (bJ:List aA→aj→Option (fB aI ah)) (dD:List aA→aj→Option (fB aI ah)) (dA:List aA→List aj→Option (fB aI (List ah))) (cB:List aA→aj→Option (fB aI ah)) (bZ:List aA→aj→Option (fB aI ah)) (s1:List aA) (e1:aj):Option (fB aI ah):=
 gD (dA s1 e1.args) (fun e2=>some (.bad e2)) fun x1=>
 qz e1 x1 BIG [] 0
mutual
def gP :Nat→List aA→aj→Option (fB aI ah)
 | 0,_,_=>none
 | k + 1,tQ,j3=>zY (gP k) (gQ k) (iy k) (fQ k) (fH k) tQ j3
def gQ :Nat→List aA→aj→Option (fB aI ah)
 | 0,_,_=>none
 | k + 1,tQ,j3=>zZ (gP k) (gQ k) (iy k) (fQ k) (fH k) tQ j3
def iy :Nat→List aA→List aj→Option (fB aI (List ah))
 | 0,_,_=>none
 | k + 1,tQ,ul1=>AP (gP k) (gQ k) (iy k) (fQ k) (fH k) tQ ul1
def fQ :Nat→List aA→aj→Option (fB aI ah)
 | 0,_,_=>none
 | k + 1,tQ,j3=>xF (gP k) (gQ k) (iy k) (fQ k) (fH k) tQ j3
def fH :Nat→List aA→aj→Option (fB aI ah)
 | 0,_,_=>none
 | k + 1,tQ,j3=>wz (gP k) (gQ k) (iy k) (fQ k) (fH k) tQ j3
end
def Hu (tQ:List aA) (j3:aj):Option (fB aI ah):=gP BIG tQ j3
def PD (tQ:List aA) (j3:aj):Option (fB aI ah):=gQ BIG tQ j3
def RA (tQ:List aA) (ul1:List aj):Option (fB aI (List ah)):=iy BIG tQ ul1
def M7 (tQ:List aA) (j3:aj):Option (fB aI ah):=fQ BIG tQ j3
def LY (tQ:List aA) (j3:aj):Option (fB aI ah):=fH BIG tQ j3
def wu (s1:List aA) (e1:aj):Option (ah × Int):=
 gD (Hu s1 e1) (fun f1=>some ((ah.mk 0 false 0 ([]:Str) [] []),f1.code)) fun v1=>
 some (v1,0)
def xX (mJ:ah→Option ah) (v1:ah):Nat→Int→ah→Option ah
 | 0,_,_=>none
 | bX + 1,x1,bn=>
  if decide (x1 < (v1.aW.length:Int)) then
   av (idx v1.aW x1) fun e1=>
   av (mJ e1) fun x2=>
   av (app bn.aW [x2]) fun x3=>
   xX mJ v1 bX (cZ (x1 + 1)) (ah.mk bn.kind bn.eB bn.gI bn.fM x3 bn.keys)
  else
   av (app bn.keys v1.keys) fun x4=>
   some (ah.mk bn.kind bn.eB bn.gI bn.fM bn.aW x4)
def C8 (mJ:ah→Option ah) (v1:ah):Option ah:=
 xX mJ v1 BIG 0 (ah.mk v1.kind v1.eB v1.gI v1.fM [] [])
def nX :Nat→ah→Option ah
 | 0,_=>none
 | k + 1,tO=>C8 (nX k) tO
def AU (tO:ah):Option ah:=nX BIG tO
def AV (e1:aj) (ou:List aA):Option (ah × Int):=
 fU (EJ e1 ou) fun s1 f1=>
 if f1 != 0 then
  some ((ah.mk 0 false 0 ([]:Str) [] []),f1)
 else
  fU (wu s1 e1) fun x1 f2=>
  av (AU x1) fun x2=>
  some (x2,f2)
def vM (qL:aJ→Option aJ) (t1:aJ):Option aJ:=
 av (iM t1.kind) fun x1=>
 if !x1 then
  gU t1.kind
 else
  av (idx t1.elem 0) fun e1=>
  av (qL e1) fun x3=>
  oC t1.kind x3
def nZ :Nat→aJ→Option aJ
 | 0,_=>none
 | k + 1,XH=>vM (nZ k) XH
def CJ (XH:aJ):Option aJ:=nZ BIG XH
def rJ (sI:aJ→aJ→Option aJ) (a1:aJ) (b1:aJ):Option aJ:=
 if a1.kind == 7 then
  CJ b1
 else
  if b1.kind == 7 then
   CJ a1
  else
   if a1.kind != b1.kind then
    gU 0
   else
    av (iM a1.kind) fun x4=>
    if x4 then
     av (idx a1.elem 0) fun e1=>
     av (idx b1.elem 0) fun e2=>
     av (sI e1 e2) fun x5=>
     oC a1.kind x5
    else
     gU a1.kind
def mH :Nat→aJ→aJ→Option aJ
 | 0,_,_=>none
 | k + 1,uy,oz=>rJ (mH k) uy oz
def Ey (uy:aJ) (oz:aJ):Option aJ:=mH BIG uy oz
def vL (lI:ah→Option aJ) (v1:ah):Nat→Int→aJ→Option aJ
 | 0,_,_=>none
 | bX + 1,x6,qE=>
  if decide (x6 < (v1.aW.length:Int)) then
   av (idx v1.aW x6) fun e1=>
   av (lI e1) fun x7=>
   av (Ey qE x7) fun x8=>
   vL lI v1 bX (cZ (x6 + 1)) x8
  else
   if v1.kind == 4 then
    oC 5 qE
   else
    oC 6 qE
def Bf (lI:ah→Option aJ) (v1:ah):Option aJ:=
 if v1.kind == 0 then
  gU 1
 else
  if v1.kind == 1 then
   gU 2
  else
   if v1.kind == 2 then
    gU 3
   else
    if v1.kind == 3 then
     gU 4
    else
     av (gU 7) fun x5=>
     vL lI v1 BIG 0 x5
def nS :Nat→ah→Option aJ
 | 0,_=>none
 | k + 1,tO=>Bf (nS k) tO
def II (tO:ah):Option aJ:=nS BIG tO
def lQ :Nat→Int→aJ→Option Int
 | 0,_,_=>none
 | bX + 1,bS,t2=>
  if decide (16 < bS) then
   some 13
  else
   av (tF t2.kind) fun x1=>
   av (
     if x1 == ([]:Str) then
      some true
     else
      av (iM t2.kind) fun x2=>
      some (x2 && ((t2.elem.length:Int) != 1))) fun b1=>
   av (
     if b1 then
      some true
     else
      av (iM t2.kind) fun x3=>
      some ((!x3) && ((t2.elem.length:Int) != 0))) fun b2=>
   if b2 then
    some 1
   else
    av (iM t2.kind) fun x4=>
    if !x4 then
     some 0
    else
     av (idx t2.elem 0) fun e1=>
     lQ bX (cZ (bS + 1)) e1
def pF (t1:aJ):Option Int:=
 lQ BIG 1 t1
def Ez (a1:aJ) (b1:aJ):Option Bool:=
 av (pF a1) fun x1=>
 if x1 == 0 then
  av (pF b1) fun x2=>
  some (x2 == 0)
 else
  some false
def yu (p9:aJ→aJ→Option Bool) (a1:aJ) (b1:aJ):Option Bool:=
 if (a1.kind == 7) || (b1.kind == 0) then
  some true
 else
  if a1.kind != b1.kind then
   some false
  else
   av (iM a1.kind) fun x1=>
   if x1 then
    av (idx a1.elem 0) fun e1=>
    av (idx b1.elem 0) fun e2=>
    p9 e1 e2
   else
    some true
def qJ :Nat→aJ→aJ→Option Bool
 | 0,_,_=>none
 | k + 1,uy,oz=>yu (qJ k) uy oz
def EY (uy:aJ) (oz:aJ):Option Bool:=qJ BIG uy oz
def Gc (a1:aJ) (b1:aJ):Option Bool:=
 av (Ez a1 b1) fun x1=>
 if x1 then
  EY a1 b1
 else
  some false
def yX (v1:ah) (t1:aJ):Option Bool:=
 av (l5 v1) fun x1=>
 if x1 == 0 then
  av (II v1) fun x2=>
  Gc x2 t1
 else
  some false
def u6 (b1:au):Nat→Int→Option (bN × Int)
 | 0,_=>none
 | bX + 1,x2=>
  if decide (x2 < (b1.attrs.length:Int)) then
   av (idx b1.attrs x2) fun e1=>
   if (!(e1.name == ([116,121,112,101]:Str))) && (!(e1.name == ([100,101,102,97,117,108,116]:Str))) then
    some ((bN.mk ([]:Str) (aJ.mk 0 []) false (ah.mk 0 false 0 ([]:Str) [] [])),10)
   else
    u6 b1 bX (cZ (x2 + 1))
  else
   fU (BL b1 ([116,121,112,101]:Str)) fun x3 is1=>
   if !is1 then
    some ((bN.mk ([]:Str) (aJ.mk 0 []) false (ah.mk 0 false 0 ([]:Str) [] [])),8)
   else
    if (x3.kind != 1) || (x3.value.kind != 3) then
     some ((bN.mk ([]:Str) (aJ.mk 0 []) false (ah.mk 0 false 0 ([]:Str) [] [])),9)
    else
     fU (Gd x3.value.fM) fun x4 e2=>
     if e2 != 0 then
      some ((bN.mk ([]:Str) (aJ.mk 0 []) false (ah.mk 0 false 0 ([]:Str) [] [])),e2)
     else
      fU (BL b1 ([100,101,102,97,117,108,116]:Str)) fun x5 is2=>
      if !is2 then
       some ((bN.mk b1.name x4 false (ah.mk 0 false 0 ([]:Str) [] [])),0)
      else
       fU (AV x5 []) fun x6 e3=>
       if e3 != 0 then
        some ((bN.mk ([]:Str) (aJ.mk 0 []) false (ah.mk 0 false 0 ([]:Str) [] [])),e3)
       else
        av (yX x6 x4) fun x7=>
        if !x7 then
         some ((bN.mk ([]:Str) (aJ.mk 0 []) false (ah.mk 0 false 0 ([]:Str) [] [])),9)
        else
         some ((bN.mk b1.name x4 true x6),0)
def Dx (b1:au):Option (bN × Int):=
 av (Dw b1.name) fun x1=>
 if (!x1) || (decide (0 < (b1.blocks.length:Int))) then
  some ((bN.mk ([]:Str) (aJ.mk 0 []) false (ah.mk 0 false 0 ([]:Str) [] [])),1)
 else
  u6 b1 BIG 0
def u7 (q1:bN) (c1:bN):Option Bool:=
 some (q1.name == c1.name)
def iB (s1:List bN) (f1:bN→Option Bool):Nat→Int→Option Int
 | 0,_=>none
 | bX + 1,i1=>
  if decide (i1 < (s1.length:Int)) then
   av (idx s1 i1) fun e1=>
   av (f1 e1) fun x1=>
   if x1 then
    some i1
   else
    iB s1 f1 bX (cZ (i1 + 1))
  else
   some (-1)
def gL (s1:List bN) (f1:bN→Option Bool):Option Int:=
 iB s1 f1 BIG 0
def jW (s1:List bN) (f1:bN→Option Bool):Option Bool:=
 av (gL s1 f1) fun x1=>
 some (decide (0≤x1))
def qc (b1:au):Nat→List bN→Int→au→Option (List bN × au × Int)
 | 0,_,_,_=>none
 | bX + 1,ps1,x2,jI=>
  if decide (x2 < (b1.blocks.length:Int)) then
   av (idx b1.blocks x2) fun e1=>
   if !(e1.kind == ([112,97,114,97,109]:Str)) then
    av (yK e1) fun x3=>
    av (app jI.blocks [x3]) fun x4=>
    qc b1 bX ps1 (cZ (x2 + 1)) (au.mk jI.kind jI.name jI.attrs x4)
   else
    fU (Dx e1) fun x5 e2=>
    if e2 != 0 then
     some ([],(au.mk ([]:Str) ([]:Str) [] []),e2)
    else
     av (jW ps1 (fun z0=>u7 z0 x5)) fun x6=>
     if x6 then
      some ([],(au.mk ([]:Str) ([]:Str) [] []),7)
     else
      av (app ps1 [x5]) fun ps2=>
      qc b1 bX ps2 (cZ (x2 + 1)) jI
  else
   some (ps1,jI,0)
def Cg (b1:au):Option (List bN × au × Int):=
 av (iF b1.attrs) fun x1=>
 qc b1 BIG [] 0 (au.mk b1.kind b1.name x1 [])
def tV (t1:bI) (c1:au):Option Bool:=
 some (t1.name == c1.name)
def gB (s1:List bI) (f1:bI→Option Bool):Nat→Int→Option Int
 | 0,_=>none
 | bX + 1,i1=>
  if decide (i1 < (s1.length:Int)) then
   av (idx s1 i1) fun e1=>
   av (f1 e1) fun x1=>
   if x1 then
    some i1
   else
    gB s1 f1 bX (cZ (i1 + 1))
  else
   some (-1)
def fE (s1:List bI) (f1:bI→Option Bool):Option Int:=
 gB s1 f1 BIG 0
def iZ (s1:List bI) (f1:bI→Option Bool):Option Bool:=
 av (fE s1 f1) fun x1=>
 some (decide (0≤x1))
def o8 (f1:cO):Nat→List bI→Int→cO→Option (List bI × cO × Int)
 | 0,_,_,_=>none
 | bX + 1,Ej,x1,jI=>
  if decide (x1 < (f1.blocks.length:Int)) then
   av (idx f1.blocks x1) fun e2=>
   if !(e2.kind == ([116,101,109,112,108,97,116,101]:Str)) then
    av (yK e2) fun x2=>
    av (app jI.blocks [x2]) fun x3=>
    o8 f1 bX Ej (cZ (x1 + 1)) (cO.mk x3)
   else
    av (LQ e2.name) fun x4=>
    if !x4 then
     some ([],(cO.mk []),1)
    else
     yg (Cg e2) fun ps1 x5 e3=>
     if e3 != 0 then
      some ([],(cO.mk []),e3)
     else
      av (iZ Ej (fun z0=>tV z0 e2)) fun x6=>
      if x6 then
       some ([],(cO.mk []),7)
      else
       av (app Ej [(bI.mk e2.name ps1 (au.mk ([]:Str) ([]:Str) x5.attrs x5.blocks))]) fun ts2=>
       o8 f1 bX ts2 (cZ (x1 + 1)) jI
  else
   some (Ej,jI,0)
def r9 (f1:cO):Option (List bI × cO × Int):=
 av (rz f1) fun e1=>
 if e1 != 0 then
  some ([],(cO.mk []),e1)
 else
  o8 f1 BIG [] 0 (cO.mk [])
def j4 (t1:bI) (c1:au):Option Bool:=
 some (t1.name == c1.name)
def uE (p1:bN) (c1:aA):Option Bool:=
 some (p1.name == c1.name)
def yB (v1:aA) (c1:Str):Option Bool:=
 some (v1.name == c1)
def nT (dL:List aA) (name1:Str):Option (ah × Bool):=
 av (jN dL (fun z0=>yB z0 name1)) fun i1=>
 if decide (i1 < 0) then
  some ((ah.mk 0 false 0 ([]:Str) [] []),false)
 else
  av (idx dL i1) fun e1=>
  some (e1.value,true)
abbrev r_ (bn:List aA) (x4:Int) (e3:bN) (KE:List aA→Int→Option (List aA × Int)) (v2:ah):Option (List aA × Int):=
 av (jM v2) fun x6=>
 av (app bn [(aA.mk e3.name x6)]) fun kY=>
 KE kY (cZ (x4 + 1))
def nH (ps1:List bN) (args1:List aA):Nat→List aA→Int→Option (List aA × Int)
 | 0,_,_=>none
 | Jj + 1,bn,x4=>
  if decide (x4 < (ps1.length:Int)) then
   av (idx ps1 x4) fun e3=>
   fU (nT args1 e3.name) fun x5 is1=>
   if (!is1) && (!e3.has) then
    some ([],8)
   else
    if !is1 then
     r_ bn x4 e3 (nH ps1 args1 Jj) e3.default
    else
     r_ bn x4 e3 (nH ps1 args1 Jj) x5
  else
   some (bn,0)
def pW (ps1:List bN) (args1:List aA):Nat→Int→Option (List aA × Int)
 | 0,_=>none
 | bX + 1,i1=>
  if decide (i1 < (args1.length:Int)) then
   av (idx args1 i1) fun e1=>
   av (gL ps1 (fun z0=>uE z0 e1)) fun Al=>
   av (sl args1 0 i1) fun x1=>
   fU (nT x1 e1.name) fun x2 Qv=>
   if decide (Al < 0) then
    some ([],10)
   else
    if Qv then
     some ([],7)
    else
     av (idx ps1 Al) fun e2=>
     av (yX e1.value e2.KR) fun x3=>
     if !x3 then
      some ([],9)
     else
      pW ps1 args1 bX (cZ (i1 + 1))
  else
   nH ps1 args1 BIG [] 0
def uQ (ps1:List bN) (args1:List aA):Option (List aA × Int):=
 pW ps1 args1 BIG 0
def sF (s1:Str):Nat→Int→Option Int
 | 0,_=>none
 | bX + 1,i1=>
  if decide (i1 < (s1.length:Int)) then
   av (idx s1 i1) fun x1=>
   if (x1.toNat:Int) == 92 then
    sF s1 bX (cZ ((cZ (i1 + 1)) + 1))
   else
    if (x1.toNat:Int) == 34 then
     some (cZ (i1 + 1))
    else
     sF s1 bX (cZ (i1 + 1))
  else
   some (s1.length:Int)
def Fe (s1:Str) (jL:Int):Option Int:=
 sF s1 BIG (cZ (jL + 1))
def mW (s1:Str):Nat→Int→Int→Option Int
 | 0,_,_=>none
 | bX + 1,at2,kT=>
  if decide (at2 < (s1.length:Int)) then
   av (idx s1 at2) fun x1=>
   if (x1.toNat:Int) == 34 then
    av (Fe s1 at2) fun at3=>
    mW s1 bX at3 kT
   else
    if (x1.toNat:Int) == 123 then
     mW s1 bX (cZ (at2 + 1)) (cZ (kT + 1))
    else
     if (x1.toNat:Int) == 125 then
      if kT == 0 then
       some at2
      else
       mW s1 bX (cZ (at2 + 1)) (cZ (kT - 1))
     else
      mW s1 bX (cZ (at2 + 1)) kT
  else
   some (-1)
def DW (s1:Str) (jL:Int):Option Int:=
 mW s1 BIG jL 0
def DV (qB:Int):Option Bool:=
 some ((qB == 32) || (qB == 9))
def zP (s1:Str) (Jw:UInt8→Option Bool):Nat→Int→Option Int
 | 0,_=>none
 | bX + 1,at2=>
  av (
    if decide (at2 < (s1.length:Int)) then
     av (idx s1 at2) fun x1=>
     Jw x1
    else
     some false) fun b1=>
  if b1 then
   zP s1 Jw bX (cZ (at2 + 1))
  else
   some at2
def BG (s1:Str) (jL:Int) (Jw:UInt8→Option Bool):Option Int:=
 zP s1 Jw BIG jL
def zS (c1:UInt8):Option Bool:=
 some ((c1.toNat:Int) != 10)
def zQ (c1:UInt8):Option Bool:=
 some ((((decide (97≤(c1.toNat:Int))) && (decide ((c1.toNat:Int)≤122))) || ((decide (65≤(c1.toNat:Int))) && (decide ((c1.toNat:Int)≤90)))) || ((c1.toNat:Int) == 95))
def vU (c1:UInt8):Option Bool:=
 some ((decide (48≤(c1.toNat:Int))) && (decide ((c1.toNat:Int)≤57)))
def CS (c1:UInt8):Option Bool:=
 av (zQ c1) fun x1=>
 if x1 then
  some true
 else
  vU c1
def LM (gG:Str) (jL:Int):Option (aX × Int × Int):=
 av (BG gG jL CS) fun xG=>
 if decide (64 < (cZ (xG - jL))) then
  some ((aX.mk 0 ([]:Str) 0),0,3)
 else
  av (sl gG jL xG) fun x1=>
  some ((aX.mk 1 x1 jL),xG,0)
def zR (Bn:Str):Nat→Int→Int→Option Bool
 | 0,_,_=>none
 | bX + 1,n1,i1=>
  if (decide (i1 < (Bn.length:Int))) && (decide (n1≤9007199254740992)) then
   av (idx Bn i1) fun x1=>
   zR Bn bX (cZ ((cZ (10 * n1)) + ((x1 - 48).toNat:Int))) (cZ (i1 + 1))
  else
   some (decide (9007199254740992 < n1))
def Jh (Bn:Str):Option Bool:=
 zR Bn BIG 0 0
def Gx (gG:Str) (jL:Int):Option (aX × Int × Int):=
 av (BG gG jL vU) fun xG=>
 av (sl gG jL xG) fun text1=>
 av (
   if decide (1 < (text1.length:Int)) then
    av (idx text1 0) fun x1=>
    some ((x1.toNat:Int) == 48)
   else
    some false) fun b1=>
 av (
   if b1 then
    some true
   else
    if decide (xG < (gG.length:Int)) then
     av (idx gG xG) fun x2=>
     zQ x2
    else
     some false) fun b2=>
 if b2 then
  some ((aX.mk 0 ([]:Str) 0),0,5)
 else
  av (Jh text1) fun x4=>
  if x4 then
   some ((aX.mk 0 ([]:Str) 0),0,2)
  else
   some ((aX.mk 2 text1 jL),xG,0)
def Az (c1:UInt8):Option Int:=
 av (vU c1) fun x1=>
 if x1 then
  some ((c1 - 48).toNat:Int)
 else
  if (decide (97≤(c1.toNat:Int))) && (decide ((c1.toNat:Int)≤102)) then
   some (cZ (((c1 - 97).toNat:Int) + 10))
  else
   if (decide (65≤(c1.toNat:Int))) && (decide ((c1.toNat:Int)≤70)) then
    some (cZ (((c1 - 65).toNat:Int) + 10))
   else
    some (-1)
def Fa (gG:Str) (jL:Int):Option (UInt8 × Int):=
 if decide ((gG.length:Int)≤(cZ (jL + 1))) then
  some (0,0)
 else
  av (idx gG (cZ (jL + 1))) fun c1=>
  if (c1.toNat:Int) == 34 then
   some (c1,2)
  else
   if (c1.toNat:Int) == 92 then
    some (c1,2)
   else
    if (c1.toNat:Int) == 110 then
     some (10,2)
    else
     if (c1.toNat:Int) == 116 then
      some (9,2)
     else
      if (c1.toNat:Int) == 120 then
       av (
         if decide ((cZ (jL + 3)) < (gG.length:Int)) then
          av (idx gG (cZ (jL + 2))) fun x1=>
          av (Az x1) fun x2=>
          some (decide (0≤x2))
         else
          some false) fun b1=>
       av (
         if b1 then
          av (idx gG (cZ (jL + 3))) fun x3=>
          av (Az x3) fun x4=>
          some (decide (0≤x4))
         else
          some false) fun b2=>
       if b2 then
        av (idx gG (cZ (jL + 2))) fun x5=>
        av (Az x5) fun x6=>
        av (idx gG (cZ (jL + 3))) fun x7=>
        av (Az x7) fun x8=>
        some ((Ft.byteOf (cZ ((cZ (16 * x6)) + x8))),4)
       else
        some (0,0)
      else
       some (0,0)
def Jg (gG:Str) (jL:Int):Option Bool:=
 av (sl gG (cZ (jL + 1)) (gG.length:Int)) fun jI=>
 if (jI == ([]:Str)) || (jI == ([120]:Str)) then
  some true
 else
  av (
    if (jI.length:Int) == 2 then
     av (idx jI 0) fun x1=>
     some ((x1.toNat:Int) == 120)
    else
     some false) fun b2=>
  if b2 then
   av (idx jI 1) fun x2=>
   av (Az x2) fun x3=>
   some (decide (0≤x3))
  else
   some false
def xS (gG:Str) (jL:Int):Nat→Int→Str→Option (aX × Int × Int)
 | 0,_,_=>none
 | bX + 1,i1,b1=>
  if decide (i1 < (gG.length:Int)) then
   av (idx gG i1) fun c1=>
   if (c1.toNat:Int) == 34 then
    if decide (4096 < (b1.length:Int)) then
     some ((aX.mk 0 ([]:Str) 0),0,3)
    else
     some ((aX.mk 3 b1 jL),(cZ (i1 + 1)),0)
   else
    if decide ((c1.toNat:Int) < 32) then
     some ((aX.mk 0 ([]:Str) 0),0,5)
    else
     if (c1.toNat:Int) == 92 then
      fU (Fa gG i1) fun x1 n1=>
      av (
        if n1 == 0 then
         Jg gG i1
        else
         some false) fun b2=>
      if b2 then
       some ((aX.mk 0 ([]:Str) 0),0,4)
      else
       if n1 == 0 then
        some ((aX.mk 0 ([]:Str) 0),0,5)
       else
        av (app b1 [x1]) fun b3=>
        xS gG jL bX (cZ (i1 + n1)) b3
     else
      av (app b1 [c1]) fun b4=>
      xS gG jL bX (cZ (i1 + 1)) b4
  else
   some ((aX.mk 0 ([]:Str) 0),0,4)
def LK (gG:Str) (jL:Int):Option (aX × Int × Int):=
 xS gG jL BIG (cZ (jL + 1)) []
def qW (gG:Str) (jL:Int):Nat→Int→Option (aX × Int × Int)
 | 0,_=>none
 | bX + 1,x1=>
  if decide (x1 < (([2,1]:List Int).length:Int)) then
   av (idx ([2,1]:List Int) x1) fun n1=>
   if decide ((gG.length:Int) < (cZ (jL + n1))) then
    qW gG jL bX (cZ (x1 + 1))
   else
    av (sl gG jL (cZ (jL + n1))) fun s1=>
    if s1 == ([124,124]:Str) then
     some ((aX.mk 4 s1 jL),(cZ (jL + n1)),0)
    else
     if s1 == ([38,38]:Str) then
      some ((aX.mk 4 s1 jL),(cZ (jL + n1)),0)
     else
      if s1 == ([61,61]:Str) then
       some ((aX.mk 4 s1 jL),(cZ (jL + n1)),0)
      else
       if s1 == ([33,61]:Str) then
        some ((aX.mk 4 s1 jL),(cZ (jL + n1)),0)
       else
        if s1 == ([60,61]:Str) then
         some ((aX.mk 4 s1 jL),(cZ (jL + n1)),0)
        else
         if s1 == ([62,61]:Str) then
          some ((aX.mk 4 s1 jL),(cZ (jL + n1)),0)
         else
          if s1 == ([60]:Str) then
           some ((aX.mk 4 s1 jL),(cZ (jL + n1)),0)
          else
           if s1 == ([62]:Str) then
            some ((aX.mk 4 s1 jL),(cZ (jL + n1)),0)
           else
            if s1 == ([43]:Str) then
             some ((aX.mk 4 s1 jL),(cZ (jL + n1)),0)
            else
             if s1 == ([45]:Str) then
              some ((aX.mk 4 s1 jL),(cZ (jL + n1)),0)
             else
              if s1 == ([42]:Str) then
               some ((aX.mk 4 s1 jL),(cZ (jL + n1)),0)
              else
               if s1 == ([47]:Str) then
                some ((aX.mk 4 s1 jL),(cZ (jL + n1)),0)
               else
                if s1 == ([37]:Str) then
                 some ((aX.mk 4 s1 jL),(cZ (jL + n1)),0)
                else
                 if s1 == ([33]:Str) then
                  some ((aX.mk 4 s1 jL),(cZ (jL + n1)),0)
                 else
                  if s1 == ([63]:Str) then
                   some ((aX.mk 4 s1 jL),(cZ (jL + n1)),0)
                  else
                   if s1 == ([58]:Str) then
                    some ((aX.mk 4 s1 jL),(cZ (jL + n1)),0)
                   else
                    if s1 == ([46]:Str) then
                     some ((aX.mk 4 s1 jL),(cZ (jL + n1)),0)
                    else
                     if s1 == ([44]:Str) then
                      some ((aX.mk 4 s1 jL),(cZ (jL + n1)),0)
                     else
                      if s1 == ([61]:Str) then
                       some ((aX.mk 4 s1 jL),(cZ (jL + n1)),0)
                      else
                       if s1 == ([40]:Str) then
                        some ((aX.mk 4 s1 jL),(cZ (jL + n1)),0)
                       else
                        if s1 == ([41]:Str) then
                         some ((aX.mk 4 s1 jL),(cZ (jL + n1)),0)
                        else
                         if s1 == ([91]:Str) then
                          some ((aX.mk 4 s1 jL),(cZ (jL + n1)),0)
                         else
                          if s1 == ([93]:Str) then
                           some ((aX.mk 4 s1 jL),(cZ (jL + n1)),0)
                          else
                           if s1 == ([123]:Str) then
                            some ((aX.mk 4 s1 jL),(cZ (jL + n1)),0)
                           else
                            if s1 == ([125]:Str) then
                             some ((aX.mk 4 s1 jL),(cZ (jL + n1)),0)
                            else
                             qW gG jL bX (cZ (x1 + 1))
  else
   some ((aX.mk 0 ([]:Str) 0),0,5)
def DT (gG:Str) (jL:Int):Option (aX × Int × Int):=
 qW gG jL BIG 0
def Jf (gG:Str) (jL:Int):Option (aX × Int × Int):=
 av (idx gG jL) fun c1=>
 av (zQ c1) fun x1=>
 if x1 then
  LM gG jL
 else
  av (vU c1) fun x5=>
  if x5 then
   Gx gG jL
  else
   if (c1.toNat:Int) == 34 then
    LK gG jL
   else
    DT gG jL
def DU (op1:Str) (kT:Int):Option Int:=
 if op1 == ([40]:Str) then
  some (cZ (kT + 1))
 else
  if op1 == ([91]:Str) then
   some (cZ (kT + 1))
  else
   if op1 == ([41]:Str) then
    some (if 0 < (cZ (kT - 1)) then (cZ (kT - 1)) else 0)
   else
    if op1 == ([93]:Str) then
     some (if 0 < (cZ (kT - 1)) then (cZ (kT - 1)) else 0)
    else
     some kT
def lT (gG:Str):Nat→List aX→Int→Int→Nat→Option (List aX × Int × Int)
 | 0,_,_,_,_=>none
 | bX + 1,bn,FM,kT,pos1=>
  if decide (pos1 < gG.length) then
   av (
     if decide ((pos1:Int) < FM) then
      some true
     else
      DV ((dec gG pos1).1:Int)) fun b1=>
   if b1 then
    lT gG bX bn FM kT (pos1 + (dec gG pos1).2)
   else
    if ((dec gG pos1).1:Int) == 35 then
     av (BG gG (pos1:Int) zS) fun abO=>
     lT gG bX bn abO kT (pos1 + (dec gG pos1).2)
    else
     if ((dec gG pos1).1:Int) == 10 then
      av (
        if kT == 0 then
         if (bn.length:Int) == 0 then
          some true
         else
          av (idx bn (cZ ((bn.length:Int) - 1))) fun e1=>
          some (e1.kind != 5)
        else
         some false) fun b2=>
      if b2 then
       av (app bn [(aX.mk 5 ([]:Str) (pos1:Int))]) fun kY=>
       lT gG bX kY FM kT (pos1 + (dec gG pos1).2)
      else
       lT gG bX bn FM kT (pos1 + (dec gG pos1).2)
     else
      yg (Jf gG (pos1:Int)) fun x2 xG e2=>
      if e2 != 0 then
       some ([],(pos1:Int),e2)
      else
       if x2.kind == 4 then
        av (DU x2.text kT) fun abM=>
        av (app bn [x2]) fun afi=>
        lT gG bX afi xG abM (pos1 + (dec gG pos1).2)
       else
        av (app bn [x2]) fun afh=>
        lT gG bX afh xG kT (pos1 + (dec gG pos1).2)
  else
   some (bn,0,0)
def Gy (gG:Str):Option (List aX × Int × Int):=
 if decide (65536 < (gG.length:Int)) then
  some ([],0,3)
 else
  lT gG BIG [] 0 0 0
def vg (s1:Str):Nat→Int→Option Bool
 | 0,_=>none
 | bX + 1,i1=>
  if decide (i1 < (s1.length:Int)) then
   av (idx s1 i1) fun x2=>
   av (zJ x2) fun x3=>
   if !x3 then
    some false
   else
    vg s1 bX (cZ (i1 + 1))
  else
   fU (strconv_Atoi s1) fun n1 Er=>
   some ((Er.isNone) && (decide (n1≤9007199254740992)))
def DN (s1:Str):Option Bool:=
 av (
   if s1 == ([]:Str) then
    some true
   else
    if decide (1 < (s1.length:Int)) then
     av (idx s1 0) fun x1=>
     some ((x1.toNat:Int) == 48)
    else
     some false) fun b1=>
 if b1 then
  some false
 else
  vg s1 BIG 0
def I_ (t1:aX):Option Bool:=
 if t1.kind == 1 then
  zi t1.text
 else
  if t1.kind == 2 then
   DN t1.text
  else
   if t1.kind == 3 then
    some (decide ((t1.text.length:Int)≤4096))
   else
    if t1.kind == 4 then
     some true
    else
     some false
def nI (qB:ak):Option (aX × ak):=
 av (
   if decide (qB.at_ < (qB.ts.length:Int)) then
    av (idx qB.ts qB.at_) fun e1=>
    I_ e1
   else
    some false) fun b1=>
 if b1 then
  av (idx qB.ts qB.at_) fun e2=>
  some (e2,qB)
 else
  some ((aX.mk 0 ([]:Str) 0),qB)
def Aw (qB:ak) (op1:Str):Option (Bool × ak):=
 fU (nI qB) fun x1 y1=>
 some (((x1.kind == 4) && (x1.text == op1)),y1)
def d9 (qB:ak) (op1:Str):Option (Bool × ak):=
 fU (Aw qB op1) fun x1 y1=>
 if !x1 then
  some (false,y1)
 else
  some (true,(ak.mk y1.ts (cZ (y1.at_ + 1))))
def jP (qB:ak) (e1:Int):Option (fB ay Unit × ak):=
 some (.bad (ay.mk qB.at_ e1),qB)
def nJ (qB:ak):Option (fB ay aX × ak):=
 if decide ((qB.ts.length:Int)≤qB.at_) then
  jE (jP qB 4) (fun e1 y2=>some (.bad e1,y2)) fun _ y1=>
  fU (nI y1) fun x1 y3=>
  if x1.kind == 0 then
   jE (jP y3 5) (fun e2 y5=>some (.bad e2,y5)) fun _ y4=>
   some (.ok x1,y4)
  else
   some (.ok x1,y3)
 else
  fU (nI qB) fun x2 y6=>
  if x2.kind == 0 then
   jE (jP y6 5) (fun e3 y8=>some (.bad e3,y8)) fun _ y7=>
   some (.ok x2,y7)
  else
   some (.ok x2,y6)
def sD (v1:ah):Option aj:=
 some (aj.mk 1 ([]:Str) v1 [] [])
def iq (qB:ak) (op1:Str):Option (fB ay Unit × ak):=
 jE (nJ qB) (fun e1 y2=>some (.bad e1,y2)) fun x1 y1=>
 fU (d9 y1 op1) fun x2 y3=>
 if !x2 then
  jE (jP y3 5) (fun e2 y5=>some (.bad e2,y5)) fun _ y4=>
  some (.ok (),y4)
 else
  some (.ok (),y3)
def qI (aG:ak→Option (fB ay aj × ak)) (aL:ak→Int→Option (fB ay aj × ak)) (aQ:ak→Option (fB ay aj × ak)) (aS:ak→Option (fB ay aj × ak)) (bB:ak→Option (fB ay aj × ak)) (bA:ak→Str→Option (fB ay aj × ak)) (bg:ak→Str→Option (fB ay (List aj) × ak)) (aT:ak→Option (fB ay aj × ak)) (qB:ak):Option (fB ay aj × ak):=
 jE (aL qB 2) (fun e1 y2=>some (.bad e1,y2)) fun x1 y1=>
 fU (d9 y1 ([63]:Str)) fun x2 y3=>
 if !x2 then
  some (.ok x1,y3)
 else
  jE (aG y3) (fun e2 y5=>some (.bad e2,y5)) fun x3 y4=>
  jE (iq y4 ([58]:Str)) (fun e3 y7=>some (.bad e3,y7)) fun _ y6=>
  jE (aG y6) (fun e4 y9=>some (.bad e4,y9)) fun x4 y8=>
  some (.ok (aj.mk 8 ([]:Str) (ah.mk 0 false 0 ([]:Str) [] []) [x1,x3,x4] []),y8)
def mR (aL:ak→Int→Option (fB ay aj × ak)) (n1:Int):Nat→aj→ak→Option (fB ay aj × ak)
 | 0,_,_=>none
 | bX + 1,e3,y5=>
  fU (nI y5) fun x3 y6=>
  av (
    if x3.kind != 4 then
     some true
    else
     av (jr x3.text) fun x4=>
     some (x4 != n1)) fun b1=>
  if b1 then
   some (.ok e3,y6)
  else
   jE (aL (ak.mk y6.ts (cZ (y6.at_ + 1))) (cZ (n1 + 1))) (fun e4 y8=>some (.bad e4,y8)) fun x5 y7=>
   if n1 == 4 then
    some (.ok (aj.mk 7 x3.text (ah.mk 0 false 0 ([]:Str) [] []) [e3,x5] []),y7)
   else
    mR aL n1 bX (aj.mk 7 x3.text (ah.mk 0 false 0 ([]:Str) [] []) [e3,x5] []) y7
def qH (aG:ak→Option (fB ay aj × ak)) (aL:ak→Int→Option (fB ay aj × ak)) (aQ:ak→Option (fB ay aj × ak)) (aS:ak→Option (fB ay aj × ak)) (bB:ak→Option (fB ay aj × ak)) (bA:ak→Str→Option (fB ay aj × ak)) (bg:ak→Str→Option (fB ay (List aj) × ak)) (aT:ak→Option (fB ay aj × ak)) (qB:ak) (n1:Int):Option (fB ay aj × ak):=
 if n1 == 7 then
  jE (aQ qB) (fun e1 y2=>some (.bad e1,y2)) fun x1 y1=>
  some (.ok x1,y1)
 else
  jE (aL qB (cZ (n1 + 1))) (fun e2 y4=>some (.bad e2,y4)) fun x2 y3=>
  mR aL n1 BIG x2 y3
def pG (aQ:ak→Option (fB ay aj × ak)) (aS:ak→Option (fB ay aj × ak)):Nat→Int→ak→Option (fB ay aj × ak)
 | 0,_,_=>none
 | bX + 1,x1,y1=>
  if decide (x1 < (([([33]:Str),([45]:Str)]:List Str).length:Int)) then
   av (idx ([([33]:Str),([45]:Str)]:List Str) x1) fun op1=>
   fU (d9 y1 op1) fun x2 y2=>
   if x2 then
    jE (aQ y2) (fun e1 y4=>some (.bad e1,y4)) fun x3 y3=>
    some (.ok (aj.mk 6 op1 (ah.mk 0 false 0 ([]:Str) [] []) [x3] []),y3)
   else
    pG aQ aS bX (cZ (x1 + 1)) y2
  else
   jE (aS y1) (fun e2 y6=>some (.bad e2,y6)) fun x4 y5=>
   some (.ok x4,y5)
def uU (aG:ak→Option (fB ay aj × ak)) (aL:ak→Int→Option (fB ay aj × ak)) (aQ:ak→Option (fB ay aj × ak)) (aS:ak→Option (fB ay aj × ak)) (bB:ak→Option (fB ay aj × ak)) (bA:ak→Str→Option (fB ay aj × ak)) (bg:ak→Str→Option (fB ay (List aj) × ak)) (aT:ak→Option (fB ay aj × ak)) (qB:ak):Option (fB ay aj × ak):=
 pG aQ aS BIG 0 qB
def kM (aG:ak→Option (fB ay aj × ak)):Nat→aj→ak→Option (fB ay aj × ak)
 | 0,_,_=>none
 | bX + 1,e2,y3=>
  fU (d9 y3 ([46]:Str)) fun x2 y4=>
  if x2 then
   jE (nJ y4) (fun e3 y6=>some (.bad e3,y6)) fun x3 y5=>
   av (
     if x3.kind != 1 then
      some true
     else
      ze x3.text) fun b1=>
   if b1 then
    jE (jP y5 5) (fun e4 y8=>some (.bad e4,y8)) fun _ y7=>
    kM aG bX (aj.mk 3 x3.text (ah.mk 0 false 0 ([]:Str) [] []) [e2] []) (ak.mk y7.ts (cZ (y7.at_ + 1)))
   else
    kM aG bX (aj.mk 3 x3.text (ah.mk 0 false 0 ([]:Str) [] []) [e2] []) (ak.mk y5.ts (cZ (y5.at_ + 1)))
  else
   fU (d9 y4 ([91]:Str)) fun x5 y9=>
   if x5 then
    jE (aG y9) (fun e5 y11=>some (.bad e5,y11)) fun x6 y10=>
    jE (iq y10 ([93]:Str)) (fun e6 y13=>some (.bad e6,y13)) fun _ y12=>
    kM aG bX (aj.mk 4 ([]:Str) (ah.mk 0 false 0 ([]:Str) [] []) [e2,x6] []) y12
   else
    some (.ok e2,y9)
def uV (aG:ak→Option (fB ay aj × ak)) (aL:ak→Int→Option (fB ay aj × ak)) (aQ:ak→Option (fB ay aj × ak)) (aS:ak→Option (fB ay aj × ak)) (bB:ak→Option (fB ay aj × ak)) (bA:ak→Str→Option (fB ay aj × ak)) (bg:ak→Str→Option (fB ay (List aj) × ak)) (aT:ak→Option (fB ay aj × ak)) (qB:ak):Option (fB ay aj × ak):=
 jE (bB qB) (fun e1 y2=>some (.bad e1,y2)) fun x1 y1=>
 kM aG BIG x1 y1
def vP (aG:ak→Option (fB ay aj × ak)) (aL:ak→Int→Option (fB ay aj × ak)) (aQ:ak→Option (fB ay aj × ak)) (aS:ak→Option (fB ay aj × ak)) (bB:ak→Option (fB ay aj × ak)) (bA:ak→Str→Option (fB ay aj × ak)) (bg:ak→Str→Option (fB ay (List aj) × ak)) (aT:ak→Option (fB ay aj × ak)) (qB:ak):Option (fB ay aj × ak):=
 jE (nJ qB) (fun e1 y2=>some (.bad e1,y2)) fun x1 y1=>
 if x1.kind == 2 then
  fU (strconv_Atoi x1.text) fun n1 x2=>
  av (sD (ah.mk 2 false n1 ([]:Str) [] [])) fun x3=>
  some (.ok x3,(ak.mk y1.ts (cZ (y1.at_ + 1))))
 else
  if x1.kind == 3 then
   av (sD (ah.mk 3 false 0 x1.text [] [])) fun x4=>
   some (.ok x4,(ak.mk y1.ts (cZ (y1.at_ + 1))))
  else
   if x1.kind == 1 then
    jE (bA (ak.mk y1.ts (cZ (y1.at_ + 1))) x1.text) (fun e2 y4=>some (.bad e2,y4)) fun x5 y3=>
    some (.ok x5,y3)
   else
    fU (d9 y1 ([40]:Str)) fun x6 y5=>
    if x6 then
     jE (aG y5) (fun e3 y7=>some (.bad e3,y7)) fun x7 y6=>
     jE (iq y6 ([41]:Str)) (fun e4 y9=>some (.bad e4,y9)) fun _ y8=>
     some (.ok x7,y8)
    else
     fU (d9 y5 ([91]:Str)) fun x8 y10=>
     if x8 then
      jE (bg y10 ([93]:Str)) (fun e5 y12=>some (.bad e5,y12)) fun x9 y11=>
      some (.ok (aj.mk 9 ([]:Str) (ah.mk 0 false 0 ([]:Str) [] []) x9 []),y11)
     else
      fU (d9 y10 ([123]:Str)) fun Il y13=>
      if Il then
       jE (aT y13) (fun e6 y15=>some (.bad e6,y15)) fun Li y14=>
       some (.ok Li,y14)
      else
       jE (jP y13 5) (fun e7 y17=>some (.bad e7,y17)) fun _ y16=>
       some (.ok (aj.mk 0 ([]:Str) (ah.mk 0 false 0 ([]:Str) [] []) [] []),y16)
def vO (aG:ak→Option (fB ay aj × ak)) (aL:ak→Int→Option (fB ay aj × ak)) (aQ:ak→Option (fB ay aj × ak)) (aS:ak→Option (fB ay aj × ak)) (bB:ak→Option (fB ay aj × ak)) (bA:ak→Str→Option (fB ay aj × ak)) (bg:ak→Str→Option (fB ay (List aj) × ak)) (aT:ak→Option (fB ay aj × ak)) (qB:ak) (s1:Str):Option (fB ay aj × ak):=
 if s1 == ([110,117,108,108]:Str) then
  av (sD (ah.mk 0 false 0 ([]:Str) [] [])) fun x1=>
  some (.ok x1,qB)
 else
  av (ze s1) fun x2=>
  if x2 then
   av (sD (ah.mk 1 (s1 == ([116,114,117,101]:Str)) 0 ([]:Str) [] [])) fun x3=>
   some (.ok x3,qB)
  else
   fU (d9 qB ([40]:Str)) fun x4 y1=>
   if x4 then
    jE (bg y1 ([41]:Str)) (fun e1 y3=>some (.bad e1,y3)) fun x5 y2=>
    some (.ok (aj.mk 5 s1 (ah.mk 0 false 0 ([]:Str) [] []) x5 []),y2)
   else
    some (.ok (aj.mk 2 s1 (ah.mk 0 false 0 ([]:Str) [] []) [] []),y1)
def qy (aG:ak→Option (fB ay aj × ak)) (xG:Str):Nat→List aj→ak→Option (fB ay (List aj) × ak)
 | 0,_,_=>none
 | bX + 1,bn,y2=>
  jE (aG y2) (fun e1 y4=>some (.bad e1,y4)) fun x2 y3=>
  av (app bn [x2]) fun kY=>
  fU (d9 y3 ([44]:Str)) fun x3 y5=>
  if !x3 then
   jE (iq y5 xG) (fun e2 y7=>some (.bad e2,y7)) fun _ y6=>
   some (.ok kY,y6)
  else
   qy aG xG bX kY y5
def vQ (aG:ak→Option (fB ay aj × ak)) (aL:ak→Int→Option (fB ay aj × ak)) (aQ:ak→Option (fB ay aj × ak)) (aS:ak→Option (fB ay aj × ak)) (bB:ak→Option (fB ay aj × ak)) (bA:ak→Str→Option (fB ay aj × ak)) (bg:ak→Str→Option (fB ay (List aj) × ak)) (aT:ak→Option (fB ay aj × ak)) (qB:ak) (xG:Str):Option (fB ay (List aj) × ak):=
 fU (d9 qB xG) fun x1 y1=>
 if x1 then
  some (.ok [],y1)
 else
  qy aG xG BIG [] y1
def lF (aG:ak→Option (fB ay aj × ak)):Nat→aj→ak→Option (fB ay aj × ak)
 | 0,_,_=>none
 | bX + 1,bn,y2=>
  jE (nJ y2) (fun e1 y4=>some (.bad e1,y4)) fun x2 y3=>
  if (x2.kind != 1) && (x2.kind != 3) then
   jE (jP y3 5) (fun e2 y6=>some (.bad e2,y6)) fun _ y5=>
   jE (iq (ak.mk y5.ts (cZ (y5.at_ + 1))) ([58]:Str)) (fun e3 y8=>some (.bad e3,y8)) fun _ y7=>
   av (app bn.keys ([x2.text]:List Str)) fun x3=>
   jE (aG y7) (fun e4 y10=>some (.bad e4,y10)) fun x4 y9=>
   av (app bn.args [x4]) fun x5=>
   fU (d9 y9 ([44]:Str)) fun x6 y11=>
   if !x6 then
    jE (iq y11 ([125]:Str)) (fun e5 y13=>some (.bad e5,y13)) fun _ y12=>
    some (.ok (aj.mk bn.kind bn.name bn.value x5 x3),y12)
   else
    lF aG bX (aj.mk bn.kind bn.name bn.value x5 x3) y11
  else
   jE (iq (ak.mk y3.ts (cZ (y3.at_ + 1))) ([58]:Str)) (fun e6 y15=>some (.bad e6,y15)) fun _ y14=>
   av (app bn.keys ([x2.text]:List Str)) fun x7=>
   jE (aG y14) (fun e7 y17=>some (.bad e7,y17)) fun x8 y16=>
   av (app bn.args [x8]) fun x9=>
   fU (d9 y16 ([44]:Str)) fun Il y18=>
   if !Il then
    jE (iq y18 ([125]:Str)) (fun e8 y20=>some (.bad e8,y20)) fun _ y19=>
    some (.ok (aj.mk bn.kind bn.name bn.value x9 x7),y19)
   else
    lF aG bX (aj.mk bn.kind bn.name bn.value x9 x7) y18
def su (aG:ak→Option (fB ay aj × ak)) (aL:ak→Int→Option (fB ay aj × ak)) (aQ:ak→Option (fB ay aj × ak)) (aS:ak→Option (fB ay aj × ak)) (bB:ak→Option (fB ay aj × ak)) (bA:ak→Str→Option (fB ay aj × ak)) (bg:ak→Str→Option (fB ay (List aj) × ak)) (aT:ak→Option (fB ay aj × ak)) (qB:ak):Option (fB ay aj × ak):=
 fU (d9 qB ([125]:Str)) fun x1 y1=>
 if x1 then
  some (.ok (aj.mk 10 ([]:Str) (ah.mk 0 false 0 ([]:Str) [] []) [] []),y1)
 else
  lF aG BIG (aj.mk 10 ([]:Str) (ah.mk 0 false 0 ([]:Str) [] []) [] []) y1
mutual
def bV :Nat→ak→Option (fB ay aj × ak)
 | 0,_=>none
 | k + 1,gV=>qI (bV k) (bU k) (dh k) (dn k) (dH k) (dG k) (dI k) (cu k) gV
def bU :Nat→ak→Int→Option (fB ay aj × ak)
 | 0,_,_=>none
 | k + 1,gV,un1=>qH (bV k) (bU k) (dh k) (dn k) (dH k) (dG k) (dI k) (cu k) gV un1
def dh :Nat→ak→Option (fB ay aj × ak)
 | 0,_=>none
 | k + 1,gV=>uU (bV k) (bU k) (dh k) (dn k) (dH k) (dG k) (dI k) (cu k) gV
def dn :Nat→ak→Option (fB ay aj × ak)
 | 0,_=>none
 | k + 1,gV=>uV (bV k) (bU k) (dh k) (dn k) (dH k) (dG k) (dI k) (cu k) gV
def dH :Nat→ak→Option (fB ay aj × ak)
 | 0,_=>none
 | k + 1,gV=>vP (bV k) (bU k) (dh k) (dn k) (dH k) (dG k) (dI k) (cu k) gV
def dG :Nat→ak→Str→Option (fB ay aj × ak)
 | 0,_,_=>none
 | k + 1,gV,tQ=>vO (bV k) (bU k) (dh k) (dn k) (dH k) (dG k) (dI k) (cu k) gV tQ
def dI :Nat→ak→Str→Option (fB ay (List aj) × ak)
 | 0,_,_=>none
 | k + 1,gV,Hl=>vQ (bV k) (bU k) (dh k) (dn k) (dH k) (dG k) (dI k) (cu k) gV Hl
def cu :Nat→ak→Option (fB ay aj × ak)
 | 0,_=>none
 | k + 1,gV=>su (bV k) (bU k) (dh k) (dn k) (dH k) (dG k) (dI k) (cu k) gV
end
def zh (gV:ak):Option (fB ay aj × ak):=bV BIG gV
def FJ (gV:ak) (un1:Int):Option (fB ay aj × ak):=bU BIG gV un1
def Kz (gV:ak):Option (fB ay aj × ak):=dh BIG gV
def KA (gV:ak):Option (fB ay aj × ak):=dn BIG gV
def LG (gV:ak):Option (fB ay aj × ak):=dH BIG gV
def LD (gV:ak) (tQ:Str):Option (fB ay aj × ak):=dG BIG gV tQ
def LH (gV:ak) (Hl:Str):Option (fB ay (List aj) × ak):=dI BIG gV Hl
def Ie (gV:ak):Option (fB ay aj × ak):=cu BIG gV
def Ja (Ej:List aX):Option (aj × Int × Int):=
 jE (zh (ak.mk Ej 0)) (fun f1 _=>some ((aj.mk 0 ([]:Str) (ah.mk 0 false 0 ([]:Str) [] []) [] []),f1.at_,f1.code)) fun e1 r1=>
 some (e1,r1.at_,0)
def Jb (Ej:List aX):Option (aj × Int × Int):=
 yg (Ja Ej) fun x1 n1 wF=>
 if wF != 0 then
  some ((aj.mk 0 ([]:Str) (ah.mk 0 false 0 ([]:Str) [] []) [] []),n1,wF)
 else
  av (jq x1) fun Jt=>
  if Jt != 0 then
   some ((aj.mk 0 ([]:Str) (ah.mk 0 false 0 ([]:Str) [] []) [] []),0,Jt)
  else
   some (x1,n1,0)
def Gm (Ej:List aX) (n1:Int) (gG:Str):Option Int:=
 if decide (n1 < (Ej.length:Int)) then
  av (idx Ej n1) fun e1=>
  some e1.at_
 else
  some (gG.length:Int)
def Gq (gG:Str):Option (aj × Int × Int):=
 yg (Gy gG) fun Ej jL wF=>
 if wF != 0 then
  some ((aj.mk 0 ([]:Str) (ah.mk 0 false 0 ([]:Str) [] []) [] []),jL,wF)
 else
  yg (Jb Ej) fun x1 n1 Jt=>
  if Jt != 0 then
   av (Gm Ej n1 gG) fun x2=>
   some ((aj.mk 0 ([]:Str) (ah.mk 0 false 0 ([]:Str) [] []) [] []),x2,Jt)
  else
   if decide (n1 < (Ej.length:Int)) then
    av (idx Ej n1) fun e1=>
    some ((aj.mk 0 ([]:Str) (ah.mk 0 false 0 ([]:Str) [] []) [] []),e1.at_,5)
   else
    some (x1,0,0)
def qY (mq:List aY) (text1:Str):Option (List aY):=
 if decide (0 < (text1.length:Int)) then app mq [(aY.mk text1 false (aj.mk 0 ([]:Str) (ah.mk 0 false 0 ([]:Str) [] []) [] []))] else some mq
def qK (s1:Str):Nat→Int→List aY→Str→Option (List aY × Int × Int)
 | 0,_,_,_=>none
 | bX + 1,jL,mq,text1=>
  if decide (jL < (s1.length:Int)) then
   av (sl s1 jL (s1.length:Int)) fun jI=>
   av (strings_HasPrefix jI ([36,36]:Str)) fun b1=>
   if b1 then
    av (app text1 [36]) fun aa5=>
    qK s1 bX (cZ (jL + 2)) mq aa5
   else
    av (strings_HasPrefix jI ([36,123]:Str)) fun b2=>
    if b2 then
     av (DW s1 (cZ (jL + 2))) fun xG=>
     if decide (xG < 0) then
      some ([],jL,4)
     else
      av (sl s1 (cZ (jL + 2)) xG) fun x1=>
      yg (Gq x1) fun e1 n1 wF=>
      if wF != 0 then
       some ([],(cZ ((cZ (jL + 2)) + n1)),wF)
      else
       av (qY mq text1) fun YZ=>
       av (app YZ [(aY.mk ([]:Str) true e1)]) fun Vf=>
       qK s1 bX (cZ (xG + 1)) Vf []
    else
     av (idx s1 jL) fun c1=>
     av (app text1 [c1]) fun aa4=>
     qK s1 bX (cZ (jL + 1)) mq aa4
  else
   av (qY mq text1) fun YX=>
   some (YX,0,0)
def t_ (s1:Str):Option (List aY × Int × Int):=
 if decide (4096 < (s1.length:Int)) then
  some ([],0,3)
 else
  qK s1 BIG 0 [] []
def iT (s1:List aj) (f1:aj→Option Bool):Nat→Int→Option Int
 | 0,_=>none
 | bX + 1,i1=>
  if decide (i1 < (s1.length:Int)) then
   av (idx s1 i1) fun e1=>
   av (f1 e1) fun x1=>
   if x1 then
    some i1
   else
    iT s1 f1 bX (cZ (i1 + 1))
  else
   some (-1)
def kW (s1:List aj) (f1:aj→Option Bool):Option Int:=
 iT s1 f1 BIG 0
def j6 (s1:List aj) (f1:aj→Option Bool):Option Bool:=
 av (kW s1 f1) fun x1=>
 some (decide (0≤x1))
def iA (s1:List aY) (f1:aY→Option Bool):Nat→Int→Option Int
 | 0,_=>none
 | bX + 1,i1=>
  if decide (i1 < (s1.length:Int)) then
   av (idx s1 i1) fun e1=>
   av (f1 e1) fun x1=>
   if x1 then
    some i1
   else
    iA s1 f1 bX (cZ (i1 + 1))
  else
   some (-1)
def kC (s1:List aY) (f1:aY→Option Bool):Option Int:=
 iA s1 f1 BIG 0
def jV (s1:List aY) (f1:aY→Option Bool):Option Bool:=
 av (kC s1 f1) fun x1=>
 some (decide (0≤x1))
def Ce (fC:List aY→List aA→Option Bool) (dS:aY→List aA→Option Bool) (eG:aj→List aA→Option Bool) (dO:aj→List aA→Option Bool) (ps1:List aY) (dL:List aA):Option Bool:=
 jV ps1 (fun z0=>dS z0 dL)
def zw (fC:List aY→List aA→Option Bool) (dS:aY→List aA→Option Bool) (eG:aj→List aA→Option Bool) (dO:aj→List aA→Option Bool) (p1:aY) (c1:List aA):Option Bool:=
 if p1.is_ then
  eG p1.expr c1
 else
  some false
def Ar (fC:List aY→List aA→Option Bool) (dS:aY→List aA→Option Bool) (eG:aj→List aA→Option Bool) (dO:aj→List aA→Option Bool) (e1:aj) (dL:List aA):Option Bool:=
 if e1.kind == 2 then
  fU (nT dL e1.name) fun x1 is1=>
  some is1
 else
  if (e1.kind == 1) && (e1.value.kind == 3) then
   yg (t_ e1.value.fM) fun ps1 x2 Er=>
   if Er == 0 then
    fC ps1 dL
   else
    some false
  else
   j6 e1.args (fun z0=>dO z0 dL)
def yJ (fC:List aY→List aA→Option Bool) (dS:aY→List aA→Option Bool) (eG:aj→List aA→Option Bool) (dO:aj→List aA→Option Bool) (a1:aj) (c1:List aA):Option Bool:=
 eG a1 c1
mutual
def jT :Nat→List aY→List aA→Option Bool
 | 0,_,_=>none
 | k + 1,Pm,jS=>Ce (jT k) (iX k) (jy k) (iE k) Pm jS
def iX :Nat→aY→List aA→Option Bool
 | 0,_,_=>none
 | k + 1,mE,Pn=>zw (jT k) (iX k) (jy k) (iE k) mE Pn
def jy :Nat→aj→List aA→Option Bool
 | 0,_,_=>none
 | k + 1,j3,jS=>Ar (jT k) (iX k) (jy k) (iE k) j3 jS
def iE :Nat→aj→List aA→Option Bool
 | 0,_,_=>none
 | k + 1,uy,Pn=>yJ (jT k) (iX k) (jy k) (iE k) uy Pn
end
def KS (Pm:List aY) (jS:List aA):Option Bool:=jT BIG Pm jS
def Po (mE:aY) (Pn:List aA):Option Bool:=iX BIG mE Pn
def Qx (j3:aj) (jS:List aA):Option Bool:=jy BIG j3 jS
def NA (uy:aj) (Pn:List aA):Option Bool:=iE BIG uy Pn
def Ls (v1:ah):Option Str:=
 av (l5 v1) fun x1=>
 if x1 != 0 then
  some ([]:Str)
 else
  EW v1
def Gn (e1:aj):Option Int:=
 if e1.kind == 8 then
  some 1
 else
  if e1.kind == 7 then
   jr e1.name
  else
   if e1.kind == 6 then
    some 7
   else
    if ((e1.kind == 1) && (e1.value.kind == 2)) && (decide (e1.value.gI < 0)) then
     some 7
    else
     some 8
def oo (s1:Str):Nat→Int→Str→Option Str
 | 0,_,_=>none
 | bX + 1,i1,b2=>
  if decide (i1 < (s1.length:Int)) then
   av (idx s1 i1) fun c1=>
   if ((c1.toNat:Int) == 34) || ((c1.toNat:Int) == 92) then
    av (sl s1 i1 (cZ (i1 + 1))) fun x1=>
    av (app ([92]:Str) x1) fun x2=>
    av (app b2 x2) fun b3=>
    oo s1 bX (cZ (i1 + 1)) b3
   else
    if (c1.toNat:Int) == 10 then
     av (app b2 ([92,110]:Str)) fun b4=>
     oo s1 bX (cZ (i1 + 1)) b4
    else
     if (c1.toNat:Int) == 9 then
      av (app b2 ([92,116]:Str)) fun b5=>
      oo s1 bX (cZ (i1 + 1)) b5
     else
      if (decide ((c1.toNat:Int) < 32)) || (decide (126 < (c1.toNat:Int))) then
       av (sl ([48,49,50,51,52,53,54,55,56,57,97,98,99,100,101,102]:Str) ((c1 / 16).toNat:Int) (((c1 / 16) + 1).toNat:Int)) fun x3=>
       av (app ([92,120]:Str) x3) fun x4=>
       av (sl ([48,49,50,51,52,53,54,55,56,57,97,98,99,100,101,102]:Str) ((c1 % 16).toNat:Int) (((c1 % 16) + 1).toNat:Int)) fun x5=>
       av (app x4 x5) fun x6=>
       av (app b2 x6) fun b6=>
       oo s1 bX (cZ (i1 + 1)) b6
      else
       av (app b2 [c1]) fun b7=>
       oo s1 bX (cZ (i1 + 1)) b7
  else
   app b2 [34]
def Ji (s1:Str):Option Str:=
 av (app [] [34]) fun b1=>
 oo s1 BIG 0 b1
def Ci (gJ:aj→Option Str) (dN:aj→Int→Option Str) (gX:aj→Option Str) (e1:aj):Option Str:=
 if e1.kind == 1 then
  Ls e1.value
 else
  if e1.kind == 2 then
   some e1.name
  else
   if e1.kind == 3 then
    av (idx e1.args 0) fun e2=>
    av (dN e2 8) fun x2=>
    av (app x2 ([46]:Str)) fun x3=>
    app x3 e1.name
   else
    if e1.kind == 4 then
     av (idx e1.args 0) fun e3=>
     av (dN e3 8) fun x5=>
     av (app x5 ([91]:Str)) fun x6=>
     av (idx e1.args 1) fun e4=>
     av (dN e4 1) fun x7=>
     av (app x6 x7) fun x8=>
     app x8 ([93]:Str)
    else
     if e1.kind == 5 then
      av (app e1.name ([40]:Str)) fun Il=>
      av (gX e1) fun Li=>
      av (app Il Li) fun SB=>
      app SB ([41]:Str)
     else
      if e1.kind == 6 then
       av (idx e1.args 0) fun e5=>
       av (dN e5 7) fun Zv=>
       app e1.name Zv
      else
       if e1.kind == 7 then
        av (jr e1.name) fun n1=>
        if n1 == 4 then
         av (idx e1.args 0) fun e6=>
         av (dN e6 (cZ (n1 + 1))) fun Qg=>
         av (app Qg ([32]:Str)) fun XG=>
         av (app XG e1.name) fun Zu=>
         av (app Zu ([32]:Str)) fun x19=>
         av (idx e1.args 1) fun e7=>
         av (dN e7 (cZ (n1 + 1))) fun x20=>
         app x19 x20
        else
         av (idx e1.args 0) fun e8=>
         av (dN e8 n1) fun x22=>
         av (app x22 ([32]:Str)) fun x23=>
         av (app x23 e1.name) fun x24=>
         av (app x24 ([32]:Str)) fun x25=>
         av (idx e1.args 1) fun e9=>
         av (dN e9 (cZ (n1 + 1))) fun x26=>
         app x25 x26
       else
        if e1.kind == 8 then
         av (idx e1.args 0) fun e10=>
         av (dN e10 2) fun x28=>
         av (app x28 ([32,63,32]:Str)) fun x29=>
         av (idx e1.args 1) fun e11=>
         av (dN e11 1) fun x30=>
         av (app x29 x30) fun x31=>
         av (app x31 ([32,58,32]:Str)) fun x32=>
         av (idx e1.args 2) fun e12=>
         av (dN e12 1) fun x33=>
         app x32 x33
        else
         if e1.kind == 9 then
          av (gX e1) fun x35=>
          av (app ([91]:Str) x35) fun x36=>
          app x36 ([93]:Str)
         else
          av (gX e1) fun x38=>
          av (app ([123]:Str) x38) fun x39=>
          app x39 ([125]:Str)
def Gp (gJ:aj→Option Str) (dN:aj→Int→Option Str) (gX:aj→Option Str) (e1:aj) (Ka:Int):Option Str:=
 av (Gn e1) fun x1=>
 if decide (x1 < Ka) then
  av (gJ e1) fun x2=>
  av (app ([40]:Str) x2) fun x3=>
  app x3 ([41]:Str)
 else
  gJ e1
def vR (dN:aj→Int→Option Str) (e1:aj):Nat→List Str→Int→Option Str
 | 0,_,_=>none
 | bX + 1,oQ,i1=>
  if decide (i1 < (e1.args.length:Int)) then
   av (idx e1.args i1) fun e2=>
   av (dN e2 1) fun s1=>
   if e1.kind == 10 then
    av (idx e1.keys i1) fun e3=>
    av (Ji e3) fun x1=>
    av (app x1 ([58,32]:Str)) fun x2=>
    av (app x2 s1) fun s2=>
    av (app oQ ([s2]:List Str)) fun LC=>
    vR dN e1 bX LC (cZ (i1 + 1))
   else
    av (app oQ ([s1]:List Str)) fun LB=>
    vR dN e1 bX LB (cZ (i1 + 1))
  else
   strings_Join oQ ([44,32]:Str)
def E9 (gJ:aj→Option Str) (dN:aj→Int→Option Str) (gX:aj→Option Str) (e1:aj):Option Str:=
 vR dN e1 BIG [] 0
mutual
def lS :Nat→aj→Option Str
 | 0,_=>none
 | k + 1,j3=>Ci (lS k) (pI k) (nV k) j3
def pI :Nat→aj→Int→Option Str
 | 0,_,_=>none
 | k + 1,j3,oM=>Gp (lS k) (pI k) (nV k) j3 oM
def nV :Nat→aj→Option Str
 | 0,_=>none
 | k + 1,j3=>E9 (lS k) (pI k) (nV k) j3
end
def KV (j3:aj):Option Str:=lS BIG j3
def Ya (j3:aj) (oM:Int):Option Str:=pI BIG j3 oM
def WI (j3:aj):Option Str:=nV BIG j3
def EG (e1:aj):Option Str:=
 av (jq e1) fun x1=>
 if x1 != 0 then
  some ([]:Str)
 else
  KV e1
def strings_ReplaceAll (s1:Str) (adh:Str) (new1:Str):Option Str:=
 if s1.length < 4294967281∧adh=[36]∧new1=[36,36] then some (s1.flatMap fun x=>if x == 36 then [36,36] else [x]) else none
def vV (ps1:List aY):Nat→Int→Str→Option Str
 | 0,_,_=>none
 | bX + 1,x1,b1=>
  if decide (x1 < (ps1.length:Int)) then
   av (idx ps1 x1) fun e1=>
   if e1.is_ then
    av (EG e1.expr) fun x2=>
    av (app ([36,123]:Str) x2) fun x3=>
    av (app x3 ([125]:Str)) fun x4=>
    av (app b1 x4) fun b2=>
    vV ps1 bX (cZ (x1 + 1)) b2
   else
    av (strings_ReplaceAll e1.text ([36]:Str) ([36,36]:Str)) fun x5=>
    av (app b1 x5) fun b3=>
    vV ps1 bX (cZ (x1 + 1)) b3
  else
   some b1
def Jk (ps1:List aY):Option Str:=
 vV ps1 BIG 0 []
def n_ (go:aj→List aA→Option (aj × Bool × Int)) (dL:List aA) (n1:Int):Nat→List aY→Int→Option (List aY × Int)
 | 0,_,_=>none
 | bX + 1,l1,i1=>
  if decide (i1 < n1) then
   av (idx l1 i1) fun p1=>
   if !p1.is_ then
    n_ go dL n1 bX l1 (cZ (i1 + 1))
   else
    fU (l6 p1.expr (fun z0=>go z0 dL)) fun x3 Er=>
    if Er != 0 then
     some ([],Er)
    else
     n_ go dL n1 bX (l1.set i1.toNat (aY.mk p1.text p1.is_ x3)) (cZ (i1 + 1))
  else
   some (l1,0)
def rP (go:aj→List aA→Option (aj × Bool × Int)) (e1:aj) (dL:List aA):Option (aj × Bool × Int):=
 fU (nT dL e1.name) fun v1 is1=>
 if is1 && (e1.kind == 2) then
  av (jM v1) fun x1=>
  some ((aj.mk 1 ([]:Str) x1 [] []),true,0)
 else
  if (e1.kind != 1) || (e1.value.kind != 3) then
   some ((aj.mk 0 ([]:Str) (ah.mk 0 false 0 ([]:Str) [] []) [] []),false,0)
  else
   yg (t_ e1.value.fM) fun ps1 x2 Er=>
   av (if Er != 0 then some true else av (KS ps1 dL) fun u1=>some (!u1)) fun b1=>
   if b1 then
    some ((aj.mk 0 ([]:Str) (ah.mk 0 false 0 ([]:Str) [] []) [] []),false,0)
   else
    fU (n_ go dL (ps1.length:Int) BIG ps1 0) fun ps2 Vw=>
    if Vw != 0 then
     some ((aj.mk 0 ([]:Str) (ah.mk 0 false 0 ([]:Str) [] []) [] []),false,Vw)
    else
     av (Jk ps2) fun s1=>
     if decide (4096 < (s1.length:Int)) then
      some ((aj.mk 0 ([]:Str) (ah.mk 0 false 0 ([]:Str) [] []) [] []),false,3)
     else
      some ((aj.mk 1 ([]:Str) (ah.mk 3 false 0 s1 [] []) [] []),true,0)
def iN :Nat→aj→List aA→Option (aj × Bool × Int)
 | 0,_,_=>none
 | k + 1,e1,dL=>rP (iN k) e1 dL
def YL (e1:aj) (dL:List aA):Option (aj × Bool × Int):=iN BIG e1 dL
def oN (e1:aj) (dL:List aA):Option (aj × Int):=l6 e1 (fun z0=>iN BIG z0 dL)
def Ck (p1:aY) (ou:List aA):Option (Str × Int):=
 if !p1.is_ then
  some (p1.text,0)
 else
  fU (AV p1.expr ou) fun x1 wF=>
  if wF != 0 then
   some (([]:Str),wF)
  else
   Gb x1
def wR (ou:List aA) (ps1:List aY):Nat→Int→Str→Option (Str × Int)
 | 0,_,_=>none
 | bX + 1,x2,b1=>
  if decide (x2 < (ps1.length:Int)) then
   av (idx ps1 x2) fun e1=>
   fU (Ck e1 ou) fun t1 acf=>
   if acf != 0 then
    some (([]:Str),acf)
   else
    av (app b1 t1) fun b2=>
    wR ou ps1 bX (cZ (x2 + 1)) b2
  else
   if decide (4096 < (b1.length:Int)) then
    some (([]:Str),3)
   else
    some (b1,0)
def xU (s1:Str) (ou:List aA):Option (Str × Int):=
 yg (t_ s1) fun ps1 x1 wF=>
 if wF != 0 then
  some (([]:Str),wF)
 else
  av (BK ou) fun Jt=>
  if Jt != 0 then
   some (([]:Str),Jt)
  else
   wR ou ps1 BIG 0 []
def l7 (dU:au→List aA→Option (au × Int)) (b1:au) (dL:List aA):Nat→Int→au→Option (au × Int)
 | 0,_,_=>none
 | Jj + 1,x4,kY=>
  if decide (x4 < (b1.blocks.length:Int)) then
   av (idx b1.blocks x4) fun e3=>
   fU (xU e3.name dL) fun name1 e4=>
   if e4 != 0 then
    some ((au.mk ([]:Str) ([]:Str) [] []),e4)
   else
    fU (dU (au.mk e3.kind name1 e3.attrs e3.blocks) dL) fun x5 e5=>
    if e5 != 0 then
     some ((au.mk ([]:Str) ([]:Str) [] []),e5)
    else
     av (app kY.blocks [x5]) fun x6=>
     l7 dU b1 dL Jj (cZ (x4 + 1)) (au.mk kY.kind kY.name kY.attrs x6)
  else
   some (kY,0)
def jA (dU:au→List aA→Option (au × Int)) (b1:au) (dL:List aA):Nat→Int→au→Option (au × Int)
 | 0,_,_=>none
 | bX + 1,x1,bn=>
  if decide (x1 < (b1.attrs.length:Int)) then
   av (idx b1.attrs x1) fun e1=>
   fU (oN e1.expr dL) fun x2 e2=>
   if e2 != 0 then
    some ((au.mk ([]:Str) ([]:Str) [] []),e2)
   else
    av (app bn.attrs [(aK.mk e1.name x2)]) fun x3=>
    jA dU b1 dL bX (cZ (x1 + 1)) (au.mk bn.kind bn.name x3 bn.blocks)
  else
   l7 dU b1 dL BIG 0 bn
def mM (dU:au→List aA→Option (au × Int)) (b1:au) (dL:List aA):Option (au × Int):=
 jA dU b1 dL BIG 0 (au.mk b1.kind b1.name [] [])
def iY :Nat→au→List aA→Option (au × Int)
 | 0,_,_=>none
 | k + 1,oz,jS=>mM (iY k) oz jS
def qN (oz:au) (jS:List aA):Option (au × Int):=iY BIG oz jS
def mo (x3:Int) (x7:au) (y3:aH) (sJ:Int→au→aH→Option (au × Int × aH)):Nat→Int→au→Option (au × Int × aH)
 | 0,_,_=>none
 | Jj + 1,x9,kY=>
  if decide (x9 < (x7.attrs.length:Int)) then
   av (idx x7.attrs x9) fun e2=>
   fU (BL kY e2.name) fun Il Qv=>
   if Qv then
    some ((au.mk ([]:Str) ([]:Str) [] []),7,y3)
   else
    av (app kY.attrs [e2]) fun Li=>
    mo x3 x7 y3 sJ Jj (cZ (x9 + 1)) (au.mk kY.kind kY.name Li kY.blocks)
  else
   av (app kY.blocks x7.blocks) fun SB=>
   sJ (cZ (x3 + 1)) (au.mk kY.kind kY.name kY.attrs SB) y3
def gy (bL:aH→au→Int→Option (au × Int × aH)) (bY:aH→au→Int→Option (au × Int × aH)) (b1:au) (oZ:Int):Nat→Int→au→aH→Option (au × Int × aH)
 | 0,_,_,_=>none
 | bX + 1,x3,bn,y1=>
  if decide (x3 < (b1.blocks.length:Int)) then
   av (idx b1.blocks x3) fun e1=>
   if !(e1.kind == ([117,115,101]:Str)) then
    yg (bL y1 e1 oZ) fun x4 x5 y2=>
    if x5 != 0 then
     some ((au.mk ([]:Str) ([]:Str) [] []),x5,y2)
    else
     av (app bn.blocks [x4]) fun x6=>
     gy bL bY b1 oZ bX (cZ (x3 + 1)) (au.mk bn.kind bn.name bn.attrs x6) y2
   else
    yg (bY y1 e1 oZ) fun x7 x8 y3=>
    if x8 != 0 then
     some ((au.mk ([]:Str) ([]:Str) [] []),x8,y3)
    else
     mo x3 x7 y3 (gy bL bY b1 oZ bX) BIG 0 bn
  else
   some (bn,0,y1)
def jB (bL:aH→au→Int→Option (au × Int × aH)) (bY:aH→au→Int→Option (au × Int × aH)) (x1:aH) (b1:au) (oZ:Int):Option (au × Int × aH):=
 av (iF b1.attrs) fun x2=>
 gy bL bY b1 oZ BIG 0 (au.mk b1.kind b1.name x2 []) x1
def iV (bL:aH→au→Int→Option (au × Int × aH)) (x1:aH) (IG:au) (oZ:Int) (Al:Int):Nat→List aA→Int→Option (au × Int × aH)
 | 0,_,_=>none
 | bX + 1,args1,x2=>
  if decide (x2 < (IG.attrs.length:Int)) then
   av (idx IG.attrs x2) fun e1=>
   fU (AV e1.expr x1.env) fun x3 e2=>
   if e2 != 0 then
    some ((au.mk ([]:Str) ([]:Str) [] []),e2,(aH.mk x1.templates x1.env (cZ (x1.uses + 1))))
   else
    av (app args1 [(aA.mk e1.name x3)]) fun args2=>
    iV bL x1 IG oZ Al bX args2 (cZ (x2 + 1))
  else
   av (idx x1.templates Al) fun e3=>
   fU (uQ e3.params args1) fun dL e4=>
   if e4 != 0 then
    some ((au.mk ([]:Str) ([]:Str) [] []),e4,(aH.mk x1.templates x1.env (cZ (x1.uses + 1))))
   else
    av (idx x1.templates Al) fun e5=>
    fU (qN e5.body dL) fun x4 e6=>
    if e6 != 0 then
     some ((au.mk ([]:Str) ([]:Str) [] []),e6,(aH.mk x1.templates x1.env (cZ (x1.uses + 1))))
    else
     bL (aH.mk x1.templates x1.env (cZ (x1.uses + 1))) x4 (cZ (oZ + 1))
def mh (bL:aH→au→Int→Option (au × Int × aH)) (bY:aH→au→Int→Option (au × Int × aH)) (x1:aH) (IG:au) (oZ:Int):Option (au × Int × aH):=
 av (fE x1.templates (fun z0=>j4 z0 IG)) fun Al=>
 if decide (0 < (IG.blocks.length:Int)) then
  some ((au.mk ([]:Str) ([]:Str) [] []),1,(aH.mk x1.templates x1.env (cZ (x1.uses + 1))))
 else
  if decide (Al < 0) then
   some ((au.mk ([]:Str) ([]:Str) [] []),8,(aH.mk x1.templates x1.env (cZ (x1.uses + 1))))
  else
   if decide (16≤oZ) then
    some ((au.mk ([]:Str) ([]:Str) [] []),13,(aH.mk x1.templates x1.env (cZ (x1.uses + 1))))
   else
    if decide (4096≤x1.uses) then
     some ((au.mk ([]:Str) ([]:Str) [] []),15,(aH.mk x1.templates x1.env (cZ (x1.uses + 1))))
    else
     iV bL x1 IG oZ Al BIG [] 0
mutual
def dV :Nat→aH→au→Int→Option (au × Int × aH)
 | 0,_,_,_=>none
 | k + 1,Pk,oz,lN=>jB (dV k) (fJ k) Pk oz lN
def fJ :Nat→aH→au→Int→Option (au × Int × aH)
 | 0,_,_,_=>none
 | k + 1,Pk,Hg,lN=>mh (dV k) (fJ k) Pk Hg lN
end
def nU (Pk:aH) (oz:au) (lN:Int):Option (au × Int × aH):=dV BIG Pk oz lN
def xk (Pk:aH) (Hg:au) (lN:Int):Option (au × Int × aH):=fJ BIG Pk Hg lN
def lY (f1:cO):Nat→Int→cO→aH→Option (cO × Int)
 | 0,_,_,_=>none
 | bX + 1,x1,bn,y1=>
  if decide (x1 < (f1.blocks.length:Int)) then
   av (idx f1.blocks x1) fun e3=>
   if !(e3.kind == ([117,115,101]:Str)) then
    yg (nU y1 e3 0) fun x2 x3 y2=>
    if x3 != 0 then
     some ((cO.mk []),x3)
    else
     av (app bn.blocks [x2]) fun x4=>
     lY f1 bX (cZ (x1 + 1)) (cO.mk x4) y2
   else
    yg (xk y1 e3 0) fun x5 x6 y3=>
    if x6 != 0 then
     some ((cO.mk []),x6)
    else
     if decide (0 < (x5.attrs.length:Int)) then
      some ((cO.mk []),1)
     else
      av (app bn.blocks x5.blocks) fun x7=>
      lY f1 bX (cZ (x1 + 1)) (cO.mk x7) y3
  else
   av (rz bn) fun e4=>
   if e4 != 0 then
    some ((cO.mk []),e4)
   else
    some (bn,0)
def uD (f1:cO) (Ej:List bI) (ou:List aA):Option (cO × Int):=
 av (rz f1) fun e1=>
 if e1 != 0 then
  some ((cO.mk []),e1)
 else
  av (BK ou) fun e2=>
  if e2 != 0 then
   some ((cO.mk []),e2)
  else
   lY f1 BIG 0 (cO.mk []) (aH.mk Ej ou 0)
def oU (f1:cO) (ou:List aA):Option (cO × Int):=
 yg (r9 f1) fun Ej x1 e1=>
 if e1 != 0 then
  some ((cO.mk []),e1)
 else
  uD x1 Ej ou
def AA :Option Bool:=
 av (nk (ah.mk 2 false 2 ([]:Str) [] [])) fun x1=>
 av (FQ [(aK.mk ([110]:Str) x1)]) fun x2=>
 fU (oU x2 []) fun x3 e1=>
 av (FQ []) fun x4=>
 fU (oU x4 []) fun x5 g1=>
 av (FP ([97]:Str)) fun x6=>
 av (FQ [(aK.mk ([110]:Str) x6)]) fun x7=>
 fU (oU x7 []) fun x8 hx1=>
 av (FQ [(aK.mk ([109]:Str) x1)]) fun x9=>
 fU (oU x9 []) fun Il Al=>
 av (
   if (e1 != 0) || ((x3.blocks.length:Int) != 1) then
    some true
   else
    av (idx x3.blocks 0) fun e2=>
    some ((e2.attrs.length:Int) != 1)) fun b1=>
 av (
   if b1 then
    some true
   else
    av (idx x3.blocks 0) fun e3=>
    some ((e3.blocks.length:Int) != 0)) fun b2=>
 if ((b2 || (g1 != 8)) || (hx1 != 9)) || (Al != 10) then
  some false
 else
  fU (uQ [(bN.mk ([110]:Str) (aJ.mk 3 []) true (ah.mk 2 false 7 ([]:Str) [] []))] []) fun l1 m1=>
  av (idx x3.blocks 0) fun e4=>
  av (idx e4.attrs 0) fun e5=>
  av (EG e5.expr) fun Li=>
  if ((Li == ([50,32,43,32,49]:Str)) && (m1 == 0)) && ((l1.length:Int) == 1) then
   av (idx l1 0) fun e6=>
   some (e6.value.gI == 7)
  else
   some false
def ku (mD:List Str) (oP:List Str):Nat→Int→Option Bool
 | 0,_=>none
 | bX + 1,i1=>
  if decide (i1 < (mD.length:Int)) then
   av (idx mD i1) fun e1=>
   av (idx oP i1) fun e2=>
   if !(e1 == e2) then
    some false
   else
    ku mD oP bX (cZ (i1 + 1))
  else
   some true
def jU (mD:List Str) (oP:List Str):Option Bool:=
 if (mD.length:Int) != (oP.length:Int) then
  some false
 else
  ku mD oP BIG 0
def dM (mD:List aj) (oP:List aj) (eq1:aj→aj→Option Bool):Nat→Int→Option Bool
 | 0,_=>none
 | bX + 1,i1=>
  if decide (i1 < (mD.length:Int)) then
   av (idx mD i1) fun e1=>
   av (idx oP i1) fun e2=>
   av (eq1 e1 e2) fun x1=>
   if !x1 then
    some false
   else
    dM mD oP eq1 bX (cZ (i1 + 1))
  else
   some true
def fu (mD:List aj) (oP:List aj) (eq1:aj→aj→Option Bool):Option Bool:=
 if (mD.length:Int) != (oP.length:Int) then
  some false
 else
  dM mD oP eq1 BIG 0
def vS (oW:aj→aj→Option Bool) (a1:aj) (b1:aj):Option Bool:=
 av (
   if (a1.kind == b1.kind) && (a1.name == b1.name) then
    jU a1.keys b1.keys
   else
    some false) fun b2=>
 av (
   if b2 then
    pQ a1.value b1.value
   else
    some false) fun b3=>
 if b3 then
  fu a1.args b1.args oW
 else
  some false
def om :Nat→aj→aj→Option Bool
 | 0,_,_=>none
 | k + 1,uy,oz=>vS (om k) uy oz
def mU (uy:aj) (oz:aj):Option Bool:=om BIG uy oz
def tZ (v1:ah) (GU:Bool):Option Bool:=
 av (Dj v1) fun x1=>
 if x1 != 0 then
  AA
 else
  av (FP ([97,110,121]:Str)) fun x3=>
  av (qX ([110]:Str)) fun x4=>
  av (qX ([109]:Str)) fun x5=>
  av (qX ([110]:Str)) fun x6=>
  if GU then
   av (qX ([109]:Str)) fun x7=>
   fU (oU (cO.mk [(au.mk ([106,111,98]:Str) ([]:Str) [] [(au.mk ([117,115,101]:Str) ([116]:Str) [(aK.mk ([110]:Str) x7)] [])]),(au.mk ([116,101,109,112,108,97,116,101]:Str) ([116]:Str) [(aK.mk ([120]:Str) x6)] [(au.mk ([112,97,114,97,109]:Str) ([110]:Str) [(aK.mk ([116,121,112,101]:Str) x3)] []),(au.mk ([115,116,101,112]:Str) ([]:Str) [(aK.mk ([121]:Str) (aj.mk 9 ([]:Str) (ah.mk 0 false 0 ([]:Str) [] []) [x4,x5] []))] [])])]) [(aA.mk ([109]:Str) v1)]) fun x8 e1=>
   av (
     if (e1 != 0) || ((x8.blocks.length:Int) != 1) then
      some true
     else
      av (idx x8.blocks 0) fun e2=>
      some ((e2.attrs.length:Int) != 1)) fun b1=>
   av (
     if b1 then
      some true
     else
      av (idx x8.blocks 0) fun e3=>
      some ((e3.blocks.length:Int) != 1)) fun b2=>
   av (
     if b2 then
      some true
     else
      av (idx x8.blocks 0) fun e4=>
      av (idx e4.blocks 0) fun e5=>
      some ((e5.attrs.length:Int) != 1)) fun b3=>
   if b3 then
    some false
   else
    av (nk v1) fun x9=>
    av (qX ([109]:Str)) fun Il=>
    av (idx x8.blocks 0) fun e6=>
    av (idx e6.attrs 0) fun e7=>
    av (nk v1) fun Li=>
    av (mU e7.expr Li) fun SB=>
    av (
      if SB then
       av (idx x8.blocks 0) fun e8=>
       av (idx e8.blocks 0) fun e9=>
       av (idx e9.attrs 0) fun e10=>
       mU e10.expr (aj.mk 9 ([]:Str) (ah.mk 0 false 0 ([]:Str) [] []) [x9,Il] [])
      else
       some false) fun b4=>
    if b4 then
     AA
    else
     some false
  else
   av (qX ([110]:Str)) fun XQ=>
   fU (oU (cO.mk [(au.mk ([106,111,98]:Str) ([]:Str) [] [(au.mk ([117,115,101]:Str) ([116]:Str) [(aK.mk ([110]:Str) XQ)] [])]),(au.mk ([116,101,109,112,108,97,116,101]:Str) ([116]:Str) [(aK.mk ([120]:Str) x6)] [(au.mk ([112,97,114,97,109]:Str) ([110]:Str) [(aK.mk ([116,121,112,101]:Str) x3)] []),(au.mk ([115,116,101,112]:Str) ([]:Str) [(aK.mk ([121]:Str) (aj.mk 9 ([]:Str) (ah.mk 0 false 0 ([]:Str) [] []) [x4,x5] []))] [])])]) [(aA.mk ([110]:Str) v1)]) fun Qg e11=>
   av (
     if (e11 != 0) || ((Qg.blocks.length:Int) != 1) then
      some true
     else
      av (idx Qg.blocks 0) fun e12=>
      some ((e12.attrs.length:Int) != 1)) fun b6=>
   av (
     if b6 then
      some true
     else
      av (idx Qg.blocks 0) fun e13=>
      some ((e13.blocks.length:Int) != 1)) fun b7=>
   av (
     if b7 then
      some true
     else
      av (idx Qg.blocks 0) fun e14=>
      av (idx e14.blocks 0) fun e15=>
      some ((e15.attrs.length:Int) != 1)) fun b8=>
   if b8 then
    some false
   else
    av (nk v1) fun XG=>
    av (qX ([109]:Str)) fun Zu=>
    av (idx Qg.blocks 0) fun e16=>
    av (idx e16.attrs 0) fun e17=>
    av (nk v1) fun x19=>
    av (mU e17.expr x19) fun x20=>
    av (
      if x20 then
       av (idx Qg.blocks 0) fun e18=>
       av (idx e18.blocks 0) fun e19=>
       av (idx e19.attrs 0) fun e20=>
       mU e20.expr (aj.mk 9 ([]:Str) (ah.mk 0 false 0 ([]:Str) [] []) [XG,Zu] [])
      else
       some false) fun b9=>
    if b9 then
     AA
    else
     some false
end Go.Ft
