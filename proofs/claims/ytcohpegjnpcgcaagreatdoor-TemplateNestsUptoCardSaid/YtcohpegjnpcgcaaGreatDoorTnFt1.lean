/- Proved here: nothing: the functional texts of the functions that the statements reach, as our program wrote them. -/
import Derived.Test.YtcohpegjnpcgcaaGreatDoorTnWords
set_option linter.unusedVariables false
set_option linter.unusedSimpArgs false
set_option linter.unusedSectionVars false
namespace Go.Ft
open Go
structure ah where
 kind:Int
 je:Bool
 jm:Int
 iK:Str
 cu:List ah
 keys:List Str
structure aj where
 kind:Int
 name:Str
 value:ah
 args:List aj
 keys:List Str
structure aM where
 name:Str
 expr:aj
structure au where
 kind:Str
 name:Str
 attrs:List aM
 blocks:List au
structure bX where
 blocks:List au
structure aB where
 name:Str
 value:ah
structure aJ where
 kind:Int
 elem:List aJ
structure aH where
 code:Int
 deriving DecidableEq
structure jl where
 half:List (BitVec 64)
 neg:Bool
 deriving DecidableEq
structure bN where
 name:Str
 H7:aJ
 has:Bool
 default:ah
structure bq where
 name:Str
 params:List bN
 body:au
structure aS where
 kind:Int
 text:Str
 at_:Int
 deriving DecidableEq
structure ak where
 ts:List aS
 at_:Int
 deriving DecidableEq
structure ay where
 at_:Int
 code:Int
 deriving DecidableEq
structure aU where
 text:Str
 WT:Bool
 expr:aj
structure aG where
 templates:List bq
 env:List aB
 uses:Int
structure XP where
 x:Int
 y:Int
 signed:Bool
 code:UInt8
 deriving DecidableEq
structure Bn where
 x:Int
 y:Int
 signed:Bool
 code:UInt8
 deriving DecidableEq
structure XO where
 msg:Str
 addr:BitVec 64
 deriving DecidableEq
structure uI where
 msg:Str
 addr:BitVec 64
 deriving DecidableEq
structure XM where
 blocks:List au
structure XL where
 kind:Str
 name:Str
 attrs:List aM
 blocks:List au
structure XK where
 kind:Int
 je:Bool
 jm:Int
 iK:Str
 cu:List ah
 keys:List Str
structure XJ where
 kind:Int
 name:Str
 value:ah
 args:List aj
 keys:List Str
structure XI where
 name:Str
 expr:aj
structure XH where
 name:Str
 value:ah
structure XG where
 kind:Int
 elem:List aJ
structure XF where
 name:Str
 H7:aJ
 has:Bool
 default:ah
structure XE where
 name:Str
 params:List bN
 body:au
structure XD where
 templates:List bq
 env:List aB
 uses:Int
structure XC where
 code:Int
 deriving DecidableEq
structure XB where
 text:Str
 WT:Bool
 expr:aj
structure XA where
 kind:Int
 text:Str
 at_:Int
 deriving DecidableEq
structure adj where
 half:List (BitVec 64)
 neg:Bool
 deriving DecidableEq
structure Xz where
 ts:List aS
 at_:Int
 deriving DecidableEq
structure Xy where
 at_:Int
 code:Int
 deriving DecidableEq
structure Xx where
 lo:UInt8
 hi:UInt8
 deriving DecidableEq
structure EI where
 lo:UInt8
 hi:UInt8
 deriving DecidableEq
structure adi where
 func:Str
 num:Str
 err:Option Nat
structure Vw where
 func:Str
 num:Str
 err:Option Nat
structure Xw where
 s:Str
 deriving DecidableEq
structure Ca where
 s:Str
 deriving DecidableEq
mutual
def ah.bulk :ah→Nat
 | ⟨a0,a1,a2,a3,a4,a5⟩=>1 + 1 + 1 + (a3.length + 1) + (ah.oZ a4 + 1) + ((List.map (fun z:Str=>(z.length + 1)) a5).sum + 1) + 1
def ah.oZ :List ah→Nat
 | []=>0
 | x :: xs=>ah.bulk x + ah.oZ xs
end
theorem ah.Bl :∀ l:List ah,ah.oZ l=(l.map ah.bulk).sum
 | []=>rfl
 | x :: l=>by simp only [ah.oZ,List.map_cons,List.sum_cons,ah.Bl l]
theorem ah.Ra (x:ah):ah.bulk x=1 + 1 + 1 + (x.iK.length + 1) + (ah.oZ x.cu + 1) + ((List.map (fun z:Str=>(z.length + 1)) x.keys).sum + 1) + 1:=by cases x; rfl
mutual
def aj.bulk :aj→Nat
 | ⟨a0,a1,a2,a3,a4⟩=>1 + (a1.length + 1) + (ah.bulk a2) + (aj.oZ a3 + 1) + ((List.map (fun z:Str=>(z.length + 1)) a4).sum + 1) + 1
def aj.oZ :List aj→Nat
 | []=>0
 | x :: xs=>aj.bulk x + aj.oZ xs
end
theorem aj.Bl :∀ l:List aj,aj.oZ l=(l.map aj.bulk).sum
 | []=>rfl
 | x :: l=>by simp only [aj.oZ,List.map_cons,List.sum_cons,aj.Bl l]
theorem aj.Ra (x:aj):aj.bulk x=1 + (x.name.length + 1) + (ah.bulk x.value) + (aj.oZ x.args + 1) + ((List.map (fun z:Str=>(z.length + 1)) x.keys).sum + 1) + 1:=by cases x; rfl
def aM.bulk (x:aM):Nat:=(x.name.length + 1) + (aj.bulk x.expr) + 1
mutual
def au.bulk :au→Nat
 | ⟨a0,a1,a2,a3⟩=>(a0.length + 1) + (a1.length + 1) + ((List.map (fun z:aM=>(aM.bulk z)) a2).sum + 1) + (au.oZ a3 + 1) + 1
def au.oZ :List au→Nat
 | []=>0
 | x :: xs=>au.bulk x + au.oZ xs
end
theorem au.Bl :∀ l:List au,au.oZ l=(l.map au.bulk).sum
 | []=>rfl
 | x :: l=>by simp only [au.oZ,List.map_cons,List.sum_cons,au.Bl l]
theorem au.Ra (x:au):au.bulk x=(x.kind.length + 1) + (x.name.length + 1) + ((List.map (fun z:aM=>(aM.bulk z)) x.attrs).sum + 1) + (au.oZ x.blocks + 1) + 1:=by cases x; rfl
def bX.bulk (x:bX):Nat:=(au.oZ x.blocks + 1) + 1
def aB.bulk (x:aB):Nat:=(x.name.length + 1) + (ah.bulk x.value) + 1
mutual
def aJ.bulk :aJ→Nat
 | ⟨a0,a1⟩=>1 + (aJ.oZ a1 + 1) + 1
def aJ.oZ :List aJ→Nat
 | []=>0
 | x :: xs=>aJ.bulk x + aJ.oZ xs
end
theorem aJ.Bl :∀ l:List aJ,aJ.oZ l=(l.map aJ.bulk).sum
 | []=>rfl
 | x :: l=>by simp only [aJ.oZ,List.map_cons,List.sum_cons,aJ.Bl l]
theorem aJ.Ra (x:aJ):aJ.bulk x=1 + (aJ.oZ x.elem + 1) + 1:=by cases x; rfl
def aH.bulk (x:aH):Nat:=1 + 1
def bN.bulk (x:bN):Nat:=(x.name.length + 1) + (aJ.bulk x.H7) + 1 + (ah.bulk x.default) + 1
def bq.bulk (x:bq):Nat:=(x.name.length + 1) + ((List.map (fun z:bN=>(bN.bulk z)) x.params).sum + 1) + (au.bulk x.body) + 1
def aS.bulk (x:aS):Nat:=1 + (x.text.length + 1) + 1 + 1
def ak.bulk (x:ak):Nat:=((List.map (fun z:aS=>(aS.bulk z)) x.ts).sum + 1) + 1 + 1
def ay.bulk (x:ay):Nat:=1 + 1 + 1
def aU.bulk (x:aU):Nat:=(x.text.length + 1) + 1 + (aj.bulk x.expr) + 1
def aG.bulk (x:aG):Nat:=((List.map (fun z:bq=>(bq.bulk z)) x.templates).sum + 1) + ((List.map (fun z:aB=>(aB.bulk z)) x.env).sum + 1) + 1 + 1
def XP.bulk (x:XP):Nat:=1 + 1 + 1 + 1 + 1
def Bn.bulk (x:Bn):Nat:=1 + 1 + 1 + 1 + 1
def XO.bulk (x:XO):Nat:=(x.msg.length + 1) + 1 + 1
def uI.bulk (x:uI):Nat:=(x.msg.length + 1) + 1 + 1
def XM.bulk (x:XM):Nat:=(au.oZ x.blocks + 1) + 1
def XL.bulk (x:XL):Nat:=(x.kind.length + 1) + (x.name.length + 1) + ((List.map (fun z:aM=>(aM.bulk z)) x.attrs).sum + 1) + (au.oZ x.blocks + 1) + 1
def XK.bulk (x:XK):Nat:=1 + 1 + 1 + (x.iK.length + 1) + (ah.oZ x.cu + 1) + ((List.map (fun z:Str=>(z.length + 1)) x.keys).sum + 1) + 1
def XJ.bulk (x:XJ):Nat:=1 + (x.name.length + 1) + (ah.bulk x.value) + (aj.oZ x.args + 1) + ((List.map (fun z:Str=>(z.length + 1)) x.keys).sum + 1) + 1
def XI.bulk (x:XI):Nat:=(x.name.length + 1) + (aj.bulk x.expr) + 1
def XH.bulk (x:XH):Nat:=(x.name.length + 1) + (ah.bulk x.value) + 1
def XG.bulk (x:XG):Nat:=1 + (aJ.oZ x.elem + 1) + 1
def XF.bulk (x:XF):Nat:=(x.name.length + 1) + (aJ.bulk x.H7) + 1 + (ah.bulk x.default) + 1
def XE.bulk (x:XE):Nat:=(x.name.length + 1) + ((List.map (fun z:bN=>(bN.bulk z)) x.params).sum + 1) + (au.bulk x.body) + 1
def XD.bulk (x:XD):Nat:=((List.map (fun z:bq=>(bq.bulk z)) x.templates).sum + 1) + ((List.map (fun z:aB=>(aB.bulk z)) x.env).sum + 1) + 1 + 1
def XC.bulk (x:XC):Nat:=1 + 1
def XB.bulk (x:XB):Nat:=(x.text.length + 1) + 1 + (aj.bulk x.expr) + 1
def XA.bulk (x:XA):Nat:=1 + (x.text.length + 1) + 1 + 1
def Xz.bulk (x:Xz):Nat:=((List.map (fun z:aS=>(aS.bulk z)) x.ts).sum + 1) + 1 + 1
def Xy.bulk (x:Xy):Nat:=1 + 1 + 1
def Xx.bulk (x:Xx):Nat:=1 + 1 + 1
def EI.bulk (x:EI):Nat:=1 + 1 + 1
def Xw.bulk (x:Xw):Nat:=(x.s.length + 1) + 1
def Ca.bulk (x:Ca):Nat:=(x.s.length + 1) + 1
def Cm (nN:Int→Option Str) (n1:Int):Option Str:=
 if decide (n1 < 0) then
  if decide ((-10) < n1) then
   app ([45]:Str) ([(Ft.byteOf (dG (48 - n1)))]:List UInt8)
  else
   av (nN (dG ((n1:Int).tdiv 10))) fun x2=>
   app x2 ([(Ft.byteOf (dG (48 - ((n1:Int).tmod 10))))]:List UInt8)
 else
  if decide (n1 < 10) then
   some ([(Ft.byteOf (dG (48 + n1)))]:List UInt8)
  else
   av (nN (dG ((n1:Int).tdiv 10))) fun x4=>
   app x4 ([(Ft.byteOf (dG (48 + ((n1:Int).tmod 10))))]:List UInt8)
def uV :Nat→Int→Option Str
 | 0,_=>none
 | k + 1,L6=>Cm (uV k) L6
def vX (L6:Int):Option Str:=uV BIG L6
def JO (s1:Str):Option aj:=
 some (aj.mk 2 s1 (ah.mk 0 false 0 ([]:Str) [] []) [] [])
def vF (jP:aj→Option Int) (e1:aj):Nat→Int→Int→Option Int
 | 0,_,_=>none
 | b_ + 1,n1,x1=>
  if decide (x1 < (e1.args.length:Int)) then
   av (idx e1.args x1) fun e2=>
   av (jP e2) fun x2=>
   vF jP e1 b_ (dG (n1 + x2)) (dG (x1 + 1))
  else
   some n1
def Aw (jP:aj→Option Int) (e1:aj):Option Int:=
 vF jP e1 BIG 1 0
def sM :Nat→aj→Option Int
 | 0,_=>none
 | k + 1,jN=>Aw (sM k) jN
def JI (jN:aj):Option Int:=sM BIG jN
def FC (v1:ah):Option Bool:=
 some ((((((v1.kind == 0) && (!v1.je)) && (v1.jm == 0)) && (v1.iK == ([]:Str))) && ((v1.cu.length:Int) == 0)) && ((v1.keys.length:Int) == 0))
def yG (c1:UInt8):Option Bool:=
 some ((((decide (97≤(c1.toNat:Int))) && (decide ((c1.toNat:Int)≤122))) || ((decide (65≤(c1.toNat:Int))) && (decide ((c1.toNat:Int)≤90)))) || ((c1.toNat:Int) == 95))
def zU (c1:UInt8):Option Bool:=
 some ((decide (48≤(c1.toNat:Int))) && (decide ((c1.toNat:Int)≤57)))
def wM (s1:Str):Nat→Int→Option Bool
 | 0,_=>none
 | b_ + 1,i1=>
  if decide (i1 < (s1.length:Int)) then
   av (idx s1 i1) fun x3=>
   av (yG x3) fun x4=>
   av (
     if !x4 then
      av (idx s1 i1) fun x5=>
      av (zU x5) fun x6=>
      some (!x6)
     else
      some false) fun b2=>
   if b2 then
    some false
   else
    wM s1 b_ (dG (i1 + 1))
  else
   some true
def BH (s1:Str):Option Bool:=
 av (
   if (decide ((s1.length:Int) < 1)) || (decide (64 < (s1.length:Int))) then
    some true
   else
    av (idx s1 0) fun x1=>
    av (yG x1) fun x2=>
    some (!x2)) fun b1=>
 if b1 then
  some false
 else
  wM s1 BIG 0
def yS (s1:Str):Option Bool:=
 some (((s1 == ([116,114,117,101]:Str)) || (s1 == ([102,97,108,115,101]:Str))) || (s1 == ([110,117,108,108]:Str)))
def wL (s1:Str):Option Bool:=
 av (BH s1) fun x1=>
 if x1 then
  av (yS s1) fun x2=>
  some (!x2)
 else
  some false
def ow (op1:Str):Option Int:=
 if op1 == ([124,124]:Str) then
  some 2
 else
  if op1 == ([38,38]:Str) then
   some 3
  else
   if op1 == ([61,61]:Str) then
    some 4
   else
    if op1 == ([33,61]:Str) then
     some 4
    else
     if op1 == ([60]:Str) then
      some 4
     else
      if op1 == ([60,61]:Str) then
       some 4
      else
       if op1 == ([62]:Str) then
        some 4
       else
        if op1 == ([62,61]:Str) then
         some 4
        else
         if op1 == ([43]:Str) then
          some 5
         else
          if op1 == ([45]:Str) then
           some 5
          else
           if op1 == ([42]:Str) then
            some 6
           else
            if op1 == ([47]:Str) then
             some 6
            else
             if op1 == ([37]:Str) then
              some 6
             else
              some 0
def DF (e1:aj):Option Bool:=
 if e1.kind == 2 then
  wL e1.name
 else
  if e1.kind == 3 then
   wL e1.name
  else
   if e1.kind == 5 then
    wL e1.name
   else
    if e1.kind == 6 then
     some ((e1.name == ([33]:Str)) || (e1.name == ([45]:Str)))
    else
     if e1.kind == 7 then
      av (ow e1.name) fun x4=>
      some (decide (0 < x4))
     else
      some (e1.name == ([]:Str))
def DK (e1:aj):Option Bool:=
 if e1.kind == 1 then
  some ((e1.args.length:Int) == 0)
 else
  if e1.kind == 2 then
   some ((e1.args.length:Int) == 0)
  else
   if e1.kind == 3 then
    some ((e1.args.length:Int) == 1)
   else
    if e1.kind == 6 then
     some ((e1.args.length:Int) == 1)
    else
     if e1.kind == 4 then
      some ((e1.args.length:Int) == 2)
     else
      if e1.kind == 7 then
       some ((e1.args.length:Int) == 2)
      else
       if e1.kind == 8 then
        some ((e1.args.length:Int) == 3)
       else
        some true
def iY (s1:List Str) (f1:Str→Option Bool):Nat→Int→Option Int
 | 0,_=>none
 | b_ + 1,i1=>
  if decide (i1 < (s1.length:Int)) then
   av (idx s1 i1) fun e1=>
   av (f1 e1) fun x1=>
   if x1 then
    some i1
   else
    iY s1 f1 b_ (dG (i1 + 1))
  else
   some (-1)
def lq (s1:List Str) (f1:Str→Option Bool):Option Int:=
 iY s1 f1 BIG 0
def ku (s1:List Str) (f1:Str→Option Bool):Option Bool:=
 av (lq s1 f1) fun x1=>
 some (decide (0≤x1))
def wN (ER:Str):Option Bool:=
 some ((decide ((ER.length:Int) < 1)) || (decide (64 < (ER.length:Int))))
def DI (e1:aj):Option Bool:=
 if e1.kind != 10 then
  some ((e1.keys.length:Int) == 0)
 else
  if (e1.keys.length:Int) == (e1.args.length:Int) then
   av (ku e1.keys wN) fun x1=>
   some (!x1)
  else
   some false
def yC {β:Type} (go:β→ah→Int→Option (Bool × β)) (v1:ah) (bZ:Int):Nat→β→Int→Option (Bool × β)
 | 0,_,_=>none
 | b_ + 1,s1,i1=>
  if decide (i1 < (v1.cu.length:Int)) then
   av (idx v1.cu i1) fun x1=>
   fU (go s1 x1 (dG (bZ + 1))) fun b1 s2=>
   if !b1 then
    some (false,s2)
   else
    yC go v1 bZ b_ s2 (dG (i1 + 1))
  else
   some (true,s1)
def Dp {β:Type} (go:β→ah→Int→Option (Bool × β)) (y:β→Int→ah→Option (Bool × β)) (s1:β) (v1:ah) (bZ:Int):Option (Bool × β):=
 fU (y s1 bZ v1) fun b1 s2=>
 if !b1 then
  some (false,s2)
 else
  yC go v1 bZ BIG s2 0
def zQ {β:Type} (y:β→Int→ah→Option (Bool × β)):Nat→β→ah→Int→Option (Bool × β)
 | 0,_,_,_=>none
 | k + 1,s1,v1,bZ=>Dp (zQ y k) y s1 v1 bZ
def IE {β:Type} (y:β→Int→ah→Option (Bool × β)) (s1:β) (v1:ah) (bZ:Int):Option (Bool × β):=zQ y BIG s1 v1 bZ
def Dq (v1:ah):Option Bool:=
 some ((((((v1.kind == 1) || (!v1.je)) && ((v1.kind == 2) || (v1.jm == 0))) && ((v1.kind == 3) || (v1.iK == ([]:Str)))) && (((v1.kind == 4) || (v1.kind == 5)) || ((v1.cu.length:Int) == 0))) && ((v1.kind == 5) || ((v1.keys.length:Int) == 0)))
def BJ (c1:UInt8):Option Bool:=
 some ((decide (48≤(c1.toNat:Int))) && (decide ((c1.toNat:Int)≤57)))
def zX (s1:Str):Nat→Int→Option Int
 | 0,_=>none
 | b_ + 1,n1=>
  av (
    if decide (n1 < (s1.length:Int)) then
     av (idx s1 n1) fun x1=>
     BJ x1
    else
     some false) fun b1=>
  if b1 then
   zX s1 b_ (dG (n1 + 1))
  else
   some n1
def GQ (s1:Str):Option Int:=
 zX s1 BIG 0
def mG (c1:UInt8):Nat→Str→Option Str
 | 0,_=>none
 | b_ + 1,s2=>
  av (
    if decide (0 < (s2.length:Int)) then
     av (idx s2 0) fun x1=>
     some ((x1.toNat:Int) == (c1.toNat:Int))
    else
     some false) fun b1=>
  if b1 then
   av (sl s2 1 (s2.length:Int)) fun s3=>
   mG c1 b_ s3
  else
   some s2
def strings_trimLeftByte (s1:Str) (c1:UInt8):Option Str:=
 mG c1 BIG s1
def uf (s1:Str) (BP:Str):Option Str:=
 if (s1 == ([]:Str)) || (BP == ([]:Str)) then
  some s1
 else
  av (
    if (BP.length:Int) == 1 then
     av (idx BP 0) fun x1=>
     some (decide ((x1.toNat:Int) < 128))
    else
     some false) fun b1=>
  if b1 then
   av (idx BP 0) fun x2=>
   strings_trimLeftByte s1 x2
  else
   none
def cmp_isNaN_int (x1:Int):Option Bool:=
 some (x1 != x1)
def cmp_Compare_int (x1:Int) (y1:Int):Option Int:=
 av (cmp_isNaN_int x1) fun La=>
 av (cmp_isNaN_int y1) fun EW=>
 if La then
  if EW then
   some 0
  else
   some (-1)
 else
  if EW then
   some 1
  else
   if decide (x1 < y1) then
    some (-1)
   else
    if decide (y1 < x1) then
     some 1
    else
     some 0
def cmp_isNaN_string (x1:Str):Option Bool:=
 some (!(x1 == x1))
def qI (x1:Str) (y1:Str):Option Int:=
 av (cmp_isNaN_string x1) fun La=>
 av (cmp_isNaN_string y1) fun EW=>
 if La then
  if EW then
   some 0
  else
   some (-1)
 else
  if EW then
   some 1
  else
   if Go.Op.bytesLess x1 y1 then
    some (-1)
   else
    if !(Go.Op.bytesLess x1 y1 || x1 == y1) then
     some 1
    else
     some 0
def yL (Eo:List Int):Nat→Int→Option Int
 | 0,_=>none
 | b_ + 1,x1=>
  if decide (x1 < (Eo.length:Int)) then
   av (idx Eo x1) fun Zd=>
   if Zd != 0 then
    some Zd
   else
    yL Eo b_ (dG (x1 + 1))
  else
   some 0
def I_ (Eo:List Int):Option Int:=
 yL Eo BIG 0
def Cw (a1:Str) (b1:Str):Option Int:=
 av (uf a1 ([48]:Str)) fun x1=>
 av (uf b1 ([48]:Str)) fun y1=>
 av (cmp_Compare_int (x1.length:Int) (y1.length:Int)) fun x2=>
 av (qI x1 y1) fun x3=>
 av (cmp_Compare_int (a1.length:Int) (b1.length:Int)) fun x4=>
 I_ ([x2,x3,x4]:List Int)
def xB (x1:UInt8):Option Bool:=
 some ((x1.toNat:Int) != (x1.toNat:Int))
def yj (x1:UInt8) (y1:UInt8):Option Int:=
 av (xB x1) fun La=>
 av (xB y1) fun EW=>
 if La then
  if EW then
   some 0
  else
   some (-1)
 else
  if EW then
   some 1
  else
   if decide ((x1.toNat:Int) < (y1.toNat:Int)) then
    some (-1)
   else
    if decide ((y1.toNat:Int) < (x1.toNat:Int)) then
     some 1
    else
     some 0
def pW :Nat→Str→Str→Option Int
 | 0,_,_=>none
 | b_ + 1,a2,b2=>
  if (!(a2 == ([]:Str))) && (!(b2 == ([]:Str))) then
   av (GQ a2) fun n1=>
   av (GQ b2) fun m1=>
   if (decide (0 < n1)) && (decide (0 < m1)) then
    av (sl a2 0 n1) fun x1=>
    av (sl b2 0 m1) fun x2=>
    av (Cw x1 x2) fun c1=>
    if c1 != 0 then
     some c1
    else
     av (sl a2 n1 (a2.length:Int)) fun a3=>
     av (sl b2 m1 (b2.length:Int)) fun b3=>
     pW b_ a3 b3
   else
    av (idx a2 0) fun x3=>
    av (idx b2 0) fun x4=>
    if (x3.toNat:Int) != (x4.toNat:Int) then
     av (idx a2 0) fun x5=>
     av (idx b2 0) fun x6=>
     yj x5 x6
    else
     av (sl a2 1 (a2.length:Int)) fun a4=>
     av (sl b2 1 (b2.length:Int)) fun b4=>
     pW b_ a4 b4
  else
   cmp_Compare_int (a2.length:Int) (b2.length:Int)
def ru (a1:Str) (b1:Str):Option Int:=
 pW BIG a1 b1
def wD (v1:ah):Nat→Int→Option Bool
 | 0,_=>none
 | b_ + 1,i1=>
  if decide (i1 < (v1.keys.length:Int)) then
   av (idx v1.keys i1) fun ER=>
   av (
     if (decide ((ER.length:Int) < 1)) || (decide (64 < (ER.length:Int))) then
      some true
     else
      if decide (0 < i1) then
       av (idx v1.keys (dG (i1 - 1))) fun e1=>
       av (ru e1 ER) fun x1=>
       some (decide (0≤x1))
      else
       some false) fun b1=>
   if b1 then
    some false
   else
    wD v1 b_ (dG (i1 + 1))
  else
   some true
def Fe (v1:ah):Option Bool:=
 if (v1.keys.length:Int) != (v1.cu.length:Int) then
  some false
 else
  wD v1 BIG 0
def IG (v1:ah) (bZ:Int):Option Int:=
 if decide (16 < bZ) then
  some 13
 else
  av (
    if (decide (v1.kind < 0)) || (decide (5 < v1.kind)) then
     some true
    else
     av (Dq v1) fun x1=>
     some (!x1)) fun b1=>
  if b1 then
   some 1
  else
   if (decide (v1.jm < (-9007199254740992))) || (decide (9007199254740992 < v1.jm)) then
    some 2
   else
    if ((decide (4096 < (v1.iK.length:Int))) || (decide (1024 < (v1.cu.length:Int)))) || (decide (1024 < (v1.keys.length:Int))) then
     some 3
    else
     av (
       if v1.kind == 5 then
        av (Fe v1) fun x2=>
        some (!x2)
       else
        some false) fun b2=>
     if b2 then
      some 1
     else
      if (((v1.kind == 4) || (v1.kind == 5)) && ((v1.cu.length:Int) == 0)) && (bZ == 16) then
       some 13
      else
       some 0
def yE (s1:Option Int) (bZ:Int) (x1:ah):Option (Bool × Option Int):=
 match s1 with
 | some _=>none
 | none=>
  av (IG x1 bZ) fun e1=>
  if !(e1 == 0) then
   some (false,some e1)
  else
   some (true,none)
def nC (v1:ah):Option Int:=
 fU (IE yE none v1 1) fun _ s1=>
 some (s1.getD 0)
def qD (l1:List Str):Nat→Int→List (Str × Int)→Option Bool
 | 0,_,_=>none
 | b_ + 1,x1,y1=>
  if decide (x1 < (l1.length:Int)) then
   av (idx l1 x1) fun s1=>
   if decide (1 < (Cr (zF y1 s1 (dG ((Cr y1 s1) + 1))) s1)) then
    some true
   else
    qD l1 b_ (dG (x1 + 1)) (zF y1 s1 (dG ((Cr y1 s1) + 1)))
  else
   some false
def zC (l1:List Str):Option Bool:=
 qD l1 BIG 0 []
def FH (e1:aj) (bZ:Int):Option Int:=
 if decide (16 < bZ) then
  some 13
 else
  av (
    if (decide (e1.kind < 1)) || (decide (10 < e1.kind)) then
     some true
    else
     if e1.kind != 1 then
      av (FC e1.value) fun x1=>
      some (!x1)
     else
      some false) fun b1=>
  av (
    if b1 then
     some true
    else
     av (DF e1) fun x2=>
     some (!x2)) fun b3=>
  av (
    if b3 then
     some true
    else
     av (DK e1) fun x3=>
     some (!x3)) fun b4=>
  av (
    if b4 then
     some true
    else
     av (DI e1) fun x4=>
     some (!x4)) fun b5=>
  if b5 then
   some 1
  else
   av (
     if e1.kind == 1 then
      av (nC e1.value) fun x5=>
      some (x5 != 0)
     else
      some false) fun b6=>
   if b6 then
    nC e1.value
   else
    if decide (1024 < (e1.args.length:Int)) then
     some 3
    else
     av (zC e1.keys) fun x7=>
     if x7 then
      some 7
     else
      some 0
def vE (jO:aj→Int→Option Int) (e1:aj) (bZ:Int):Nat→Int→Option Int
 | 0,_=>none
 | b_ + 1,x1=>
  if decide (x1 < (e1.args.length:Int)) then
   av (idx e1.args x1) fun e2=>
   av (jO e2 (dG (bZ + 1))) fun f2=>
   if f2 != 0 then
    some f2
   else
    vE jO e1 bZ b_ (dG (x1 + 1))
  else
   some 0
def Au (jO:aj→Int→Option Int) (e1:aj) (bZ:Int):Option Int:=
 av (FH e1 bZ) fun f1=>
 if f1 != 0 then
  some f1
 else
  vE jO e1 bZ BIG 0
def sG :Nat→aj→Int→Option Int
 | 0,_,_=>none
 | k + 1,jN,kJ=>Au (sG k) jN kJ
def JH (jN:aj) (kJ:Int):Option Int:=sG BIG jN kJ
def oI (e1:aj):Option Int:=
 av (JI e1) fun x1=>
 if decide (4096 < x1) then
  some 15
 else
  JH e1 1
def z8 (s1:Str):Option Bool:=
 av (oI (aj.mk 2 s1 (ah.mk 0 false 0 ([]:Str) [] []) [] [])) fun x1=>
 some (x1 == 0)
def oP (b1:au):Nat→Int→List (Str × Int)→Option Int
 | 0,_,_=>none
 | b_ + 1,x1,y1=>
  if decide (x1 < (b1.attrs.length:Int)) then
   av (idx b1.attrs x1) fun e1=>
   av (z8 e1.name) fun x2=>
   if !x2 then
    some 1
   else
    av (oI e1.expr) fun e2=>
    if e2 != 0 then
     some e2
    else
     if decide (1 < (Cr (zF y1 e1.name (dG ((Cr y1 e1.name) + 1))) e1.name)) then
      some 7
     else
      oP b1 b_ (dG (x1 + 1)) (zF y1 e1.name (dG ((Cr y1 e1.name) + 1)))
  else
   some 0
def xw (b1:au):Option Int:=
 oP b1 BIG 0 []
def vI (jR:au→Int→Option Int) (b1:au) (bZ:Int):Nat→Int→Option Int
 | 0,_=>none
 | b_ + 1,x2=>
  if decide (x2 < (b1.blocks.length:Int)) then
   av (idx b1.blocks x2) fun e2=>
   av (jR e2 (dG (bZ + 1))) fun e3=>
   if e3 != 0 then
    some e3
   else
    vI jR b1 bZ b_ (dG (x2 + 1))
  else
   some 0
def Ba (jR:au→Int→Option Int) (b1:au) (bZ:Int):Option Int:=
 if decide (16 < bZ) then
  some 13
 else
  av (z8 b1.kind) fun x1=>
  if (!x1) || (decide (64 < (b1.name.length:Int))) then
   some 1
  else
   if (decide (1024 < (b1.attrs.length:Int))) || (decide (1024 < (b1.blocks.length:Int))) then
    some 3
   else
    av (xw b1) fun e1=>
    if e1 != 0 then
     some e1
    else
     vI jR b1 bZ BIG 0
def tJ :Nat→au→Int→Option Int
 | 0,_,_=>none
 | k + 1,qN,kJ=>Ba (tJ k) qN kJ
def oO (qN:au) (kJ:Int):Option Int:=tJ BIG qN kJ
def lM (f1:bX):Nat→Int→Option Int
 | 0,_=>none
 | b_ + 1,x1=>
  if decide (x1 < (f1.blocks.length:Int)) then
   av (idx f1.blocks x1) fun e1=>
   av (oO e1 1) fun e2=>
   if e2 != 0 then
    some e2
   else
    lM f1 b_ (dG (x1 + 1))
  else
   some 0
def oQ (f1:bX):Option Int:=
 if decide (1024 < (f1.blocks.length:Int)) then
  some 3
 else
  lM f1 BIG 0
def dW (s1:List aM):Option (List aM):=
 app [] s1
def gF (s1:List Str):Option (List Str):=
 app [] s1
def eY (s1:List ah):Option (List ah):=
 app [] s1
def nS (go:ah→Option ah) (n1:Int):Nat→List ah→Int→Option (List ah)
 | 0,_,_=>none
 | b_ + 1,l1,i1=>
  if decide (i1 < n1) then
   av (idx l1 i1) fun e1=>
   av (go e1) fun x1=>
   nS go n1 b_ (l1.set i1.toNat x1) (dG (i1 + 1))
  else
   some l1
def sD (go:ah→Option ah) (v1:ah):Option ah:=
 av (gF v1.keys) fun k1=>
 av (eY v1.cu) fun l1=>
 av (nS go (l1.length:Int) BIG l1 0) fun l2=>
 some (ah.mk v1.kind v1.je v1.jm v1.iK l2 k1)
def oD :Nat→ah→Option ah
 | 0,_=>none
 | k + 1,v1=>sD (oD k) v1
def qA (v1:ah):Option ah:=oD BIG v1
def fE (s1:List aj):Option (List aj):=
 app [] s1
def pq (go:aj→(aj→Option (aj × Bool × Int))→Option (aj × Int)) (lF:aj→Option (aj × Bool × Int)) (n1:Int):Nat→List aj→Int→Option (List aj × Int)
 | 0,_,_=>none
 | b_ + 1,l1,i1=>
  if decide (i1 < n1) then
   av (idx l1 i1) fun e1=>
   fU (go e1 lF) fun x1 Bt=>
   if Bt != 0 then
    some ([],Bt)
   else
    pq go lF n1 b_ (l1.set i1.toNat x1) (dG (i1 + 1))
  else
   some (l1,0)
def vM (go:aj→(aj→Option (aj × Bool × Int))→Option (aj × Int)) (e1:aj) (lF:aj→Option (aj × Bool × Int)):Option (aj × Int):=
 u7 (lF e1) fun x1 known1 Bt=>
 if known1 || (Bt != 0) then
  some (x1,Bt)
 else
  av (qA e1.value) fun x2=>
  av (gF e1.keys) fun k2=>
  av (fE e1.args) fun l1=>
  fU (pq go lF (l1.length:Int) BIG l1 0) fun l2 QN=>
  if QN != 0 then
   some ((aj.mk 0 ([]:Str) (ah.mk 0 false 0 ([]:Str) [] []) [] []),QN)
  else
   some ((aj.mk e1.kind e1.name x2 l2 k2),0)
def qy :Nat→aj→(aj→Option (aj × Bool × Int))→Option (aj × Int)
 | 0,_,_=>none
 | k + 1,e1,lF=>vM (qy k) e1 lF
def tY (e1:aj) (lF:aj→Option (aj × Bool × Int)):Option (aj × Int):=qy BIG e1 lF
def pz (a1:aj):Option (aj × Bool × Int):=
 some ((aj.mk 0 ([]:Str) (ah.mk 0 false 0 ([]:Str) [] []) [] []),false,0)
def wH (e1:aj):Option aj:=
 fU (tY e1 pz) fun x1 x2=>
 some x1
def nU (n1:Int):Nat→List aM→Int→Option (List aM)
 | 0,_,_=>none
 | b_ + 1,l1,i1=>
  if decide (i1 < n1) then
   av (idx l1 i1) fun e1=>
   av (wH e1.expr) fun x1=>
   nU n1 b_ (l1.set i1.toNat (aM.mk e1.name x1)) (dG (i1 + 1))
  else
   some l1
def kR (l0:List aM):Option (List aM):=
 av (dW l0) fun l1=>nU (l1.length:Int) BIG l1 0
def eZ (s1:List au):Option (List au):=
 app [] s1
def nT (go:au→Option au) (n1:Int):Nat→List au→Int→Option (List au)
 | 0,_,_=>none
 | b_ + 1,l1,i1=>
  if decide (i1 < n1) then
   av (idx l1 i1) fun e1=>
   av (go e1) fun x1=>
   nT go n1 b_ (l1.set i1.toNat x1) (dG (i1 + 1))
  else
   some l1
def sF (go:au→Option au) (v1:au):Option au:=
 av (kR v1.attrs) fun k1=>
 av (eZ v1.blocks) fun l1=>
 av (nT go (l1.length:Int) BIG l1 0) fun l2=>
 some (au.mk v1.kind v1.name k1 l2)
def oF :Nat→au→Option au
 | 0,_=>none
 | k + 1,v1=>sF (oF k) v1
def qB (v1:au):Option au:=oF BIG v1
def pE (l1:List UInt8) (RZ:Int→UInt8→Option Bool):Nat→Int→Option Bool
 | 0,_=>none
 | b_ + 1,i1=>
  if decide (i1 < (l1.length:Int)) then
   av (idx l1 i1) fun e1=>
   av (RZ i1 e1) fun x1=>
   if !x1 then
    some false
   else
    pE l1 RZ b_ (dG (i1 + 1))
  else
   some true
def xX (l1:List UInt8) (RZ:Int→UInt8→Option Bool):Option Bool:=
 pE l1 RZ BIG 0
def zY (i1:Int) (c1:UInt8):Option Bool:=
 av (
   if (decide (97≤(c1.toNat:Int))) && (decide ((c1.toNat:Int)≤122)) then
    some true
   else
    BJ c1) fun b1=>
 some (b1 || ((decide (0 < i1)) && ((((c1.toNat:Int) == 95) || ((c1.toNat:Int) == 45)) || ((c1.toNat:Int) == 46))))
def AL (s1:Str):Option Bool:=
 if (decide (0 < (s1.length:Int))) && (decide ((s1.length:Int)≤64)) then
  av (app ([]:Str) s1) fun x1=>
  xX x1 zY
 else
  some false
def BO (mq:List aB):Nat→Int→List (Str × Int)→Option Int
 | 0,_,_=>none
 | b_ + 1,x1,y1=>
  if decide (x1 < (mq.length:Int)) then
   av (idx mq x1) fun e1=>
   av (oI (aj.mk 2 e1.name (ah.mk 0 false 0 ([]:Str) [] []) [] [])) fun x2=>
   if x2 != 0 then
    some 1
   else
    av (nC e1.value) fun e2=>
    if e2 != 0 then
     some e2
    else
     if decide (1 < (Cr (zF y1 e1.name (dG ((Cr y1 e1.name) + 1))) e1.name)) then
      some 7
     else
      BO mq b_ (dG (x1 + 1)) (zF y1 e1.name (dG ((Cr y1 e1.name) + 1)))
  else
   some 0
def AV (mq:List aB):Option Int:=
 if decide (1024 < (mq.length:Int)) then
  some 3
 else
  BO mq BIG 0 []
def Al (s1:Str):Option Bool:=
 av (AV [(aB.mk s1 (ah.mk 0 false 0 ([]:Str) [] []))]) fun x1=>
 some (x1 == 0)
def vH (jQ:ah→Option ah) (v1:ah):Nat→Int→ah→Option ah
 | 0,_,_=>none
 | b_ + 1,x1,aY=>
  if decide (x1 < (v1.cu.length:Int)) then
   av (idx v1.cu x1) fun e1=>
   av (jQ e1) fun x2=>
   av (app aY.cu [x2]) fun x3=>
   vH jQ v1 b_ (dG (x1 + 1)) (ah.mk aY.kind aY.je aY.jm aY.iK x3 aY.keys)
  else
   av (app [] v1.keys) fun x4=>
   some (ah.mk aY.kind aY.je aY.jm aY.iK aY.cu x4)
def A_ (jQ:ah→Option ah) (v1:ah):Option ah:=
 vH jQ v1 BIG 0 (ah.mk v1.kind v1.je v1.jm v1.iK [] v1.keys)
def tH :Nat→ah→Option ah
 | 0,_=>none
 | k + 1,vg=>A_ (tH k) vg
def J3 (vg:ah):Option ah:=tH BIG vg
def xu (kF:aj→Option aj) (e1:aj):Nat→Int→aj→Option aj
 | 0,_,_=>none
 | b_ + 1,x2,aY=>
  if decide (x2 < (e1.args.length:Int)) then
   av (idx e1.args x2) fun e2=>
   av (kF e2) fun x3=>
   av (app aY.args [x3]) fun x4=>
   xu kF e1 b_ (dG (x2 + 1)) (aj.mk aY.kind aY.name aY.value x4 aY.keys)
  else
   av (app [] e1.keys) fun x5=>
   some (aj.mk aY.kind aY.name aY.value aY.args x5)
def CB (kF:aj→Option aj) (e1:aj):Option aj:=
 av (J3 e1.value) fun x1=>
 xu kF e1 BIG 0 (aj.mk e1.kind e1.name x1 [] e1.keys)
def u6 :Nat→aj→Option aj
 | 0,_=>none
 | k + 1,jN=>CB (u6 k) jN
def LB (jN:aj):Option aj:=u6 BIG jN
def xA (b1:au) (name1:Str):Nat→Int→Option (aj × Bool)
 | 0,_=>none
 | b_ + 1,x1=>
  if decide (x1 < (b1.attrs.length:Int)) then
   av (idx b1.attrs x1) fun e1=>
   if e1.name == name1 then
    av (LB e1.expr) fun x2=>
    some (x2,true)
   else
    xA b1 name1 b_ (dG (x1 + 1))
  else
   some ((aj.mk 0 ([]:Str) (ah.mk 0 false 0 ([]:Str) [] []) [] []),false)
def yZ (b1:au) (name1:Str):Option (aj × Bool):=
 xA b1 name1 BIG 0
def yR (lC:Int):Option Str:=
 if (decide (lC < 0)) || (decide (8≤lC)) then
  some ([]:Str)
 else
  idx ([([97,110,121]:Str),([110,117,108,108]:Str),([98,111,111,108]:Str),([105,110,116]:Str),([115,116,114,105,110,103]:Str),([108,105,115,116]:Str),([109,97,112]:Str),([110,101,118,101,114]:Str)]:List Str) lC
def mI (s1:Str) (lQ:Str):Option Bool:=
 if decide ((lQ.length:Int)≤(s1.length:Int)) then
  av (sl s1 0 (lQ.length:Int)) fun x1=>
  some (x1 == lQ)
 else
  some false
def pY (s1:Str) (lQ:Str):Option (Str × Bool):=
 av (mI s1 lQ) fun x1=>
 if !x1 then
  some (s1,false)
 else
  av (sl s1 (lQ.length:Int) (s1.length:Int)) fun TJ=>
  some (TJ,true)
def strings_CutPrefix (s1:Str) (lQ:Str):Option (Str × Bool):=
 pY s1 lQ
def mH (s1:Str) (lN:Str):Option Bool:=
 if decide ((lN.length:Int)≤(s1.length:Int)) then
  av (sl s1 (dG ((s1.length:Int) - (lN.length:Int))) (s1.length:Int)) fun x1=>
  some (x1 == lN)
 else
  some false
def pX (s1:Str) (lN:Str):Option (Str × Bool):=
 av (mH s1 lN) fun x1=>
 if !x1 then
  some (s1,false)
 else
  av (sl s1 0 (dG ((s1.length:Int) - (lN.length:Int)))) fun Rb=>
  some (Rb,true)
def strings_CutSuffix (s1:Str) (lN:Str):Option (Str × Bool):=
 pX s1 lN
def pK (s1:Str):Nat→Int→Option (Int × Str)
 | 0,_=>none
 | b_ + 1,x1=>
  if decide (x1 < (([5,6]:List Int).length:Int)) then
   av (idx ([5,6]:List Int) x1) fun lC=>
   av (yR lC) fun x2=>
   av (app x2 ([40]:Str)) fun x3=>
   fU (strings_CutPrefix s1 x3) fun iZ ok1=>
   if !ok1 then
    pK s1 b_ (dG (x1 + 1))
   else
    fU (strings_CutSuffix iZ ([41]:Str)) fun xO ok2=>
    if ok2 then
     some (lC,xO)
    else
     pK s1 b_ (dG (x1 + 1))
  else
   some (8,([]:Str))
def Ch (s1:Str):Option (Int × Str):=
 pK s1 BIG 0
def l7 (lC:Int):Option Bool:=
 some ((lC == 5) || (lC == 6))
def kr (lC:Int):Option aJ:=
 some (aJ.mk lC [])
def xQ (lC:Int) (xO:aJ):Option aJ:=
 some (aJ.mk lC [xO])
def vo (lZ:List Int):Nat→Int→aJ→Option (aJ × Int)
 | 0,_,_=>none
 | kk3 + 1,i1,t1=>
  if decide (0≤i1) then
   av (idx lZ i1) fun e1=>
   av (xQ e1 t1) fun x4=>
   vo lZ kk3 (dG (i1 - 1)) x4
  else
   some (t1,0)
def vv (s2:Str) (lZ:List Int):Nat→Int→Option (aJ × Int)
 | 0,_=>none
 | IZ + 1,Eu=>
  if decide (Eu < 8) then
   av (l7 Eu) fun x1=>
   av (
     if x1 then
      some true
     else
      av (yR Eu) fun x2=>
      some (!(x2 == s2))) fun b1=>
   if b1 then
    vv s2 lZ IZ (dG (Eu + 1))
   else
    if decide (16≤(lZ.length:Int)) then
     some ((aJ.mk 0 []),13)
    else
     av (kr Eu) fun x3=>
     vo lZ BIG (dG ((lZ.length:Int) - 1)) x3
  else
   some ((aJ.mk 0 []),5)
def vw :Nat→Str→List Int→Option (aJ × Int)
 | 0,_,_=>none
 | b_ + 1,s2,lZ=>
  fU (Ch s2) fun lC iZ=>
  if lC == 8 then
   vv s2 lZ BIG 0
  else
   av (app lZ ([lC]:List Int)) fun Tj=>
   vw b_ iZ Tj
def Dw (s1:Str):Option (aJ × Int):=
 if decide (4096 < (s1.length:Int)) then
  some ((aJ.mk 0 []),3)
 else
  vw BIG s1 []
def FR (e1:aj) (mq:List aB):Option (List aB × Int):=
 av (AV mq) fun f1=>
 if f1 != 0 then
  some ([],f1)
 else
  av (oI e1) fun f2=>
  if f2 != 0 then
   some ([],f2)
  else
   some (mq,0)
def GU (e1:Int):Option (eP aH Unit):=
 some (.bad (aH.mk e1))
def qG (s1:List aB) (name1:Str):Nat→Int→Option (eP aH ah)
 | 0,_=>none
 | b_ + 1,x1=>
  if decide (x1 < (s1.length:Int)) then
   av (idx s1 x1) fun e1=>
   if e1.name == name1 then
    some (.ok e1.value)
   else
    qG s1 name1 b_ (dG (x1 + 1))
  else
   fO (GU 10) (fun e2=>some (.bad e2)) fun _=>
   some (.ok (ah.mk 0 false 0 ([]:Str) [] []))
def zI (s1:List aB) (name1:Str):Option (eP aH ah):=
 qG s1 name1 BIG 0
def uj (s1:Str):Option ah:=
 some (ah.mk 3 false 0 s1 [] [])
def mJ (v1:ah) (lC:Int):Option Bool:=
 some (v1.kind == lC)
def f_ (ok1:Bool) (e1:Int):Option (eP aH Unit):=
 if !ok1 then
  fO (GU e1) (fun e2=>some (.bad e2)) fun _=>
  some (.ok ())
 else
  some (.ok ())
def jI (s1:List Str) (v1:Str):Nat→Int→Option Int
 | 0,_=>none
 | b_ + 1,i1=>
  if decide (i1 < (s1.length:Int)) then
   av (idx s1 i1) fun e1=>
   if v1 == e1 then
    some i1
   else
    jI s1 v1 b_ (dG (i1 + 1))
  else
   some (-1)
def mR (s1:List Str) (v1:Str):Option Int:=
 jI s1 v1 BIG 0
def wE (kD:ah→Option ah) (v1:ah):Nat→Int→ah→Option ah
 | 0,_,_=>none
 | b_ + 1,x2,aY=>
  if decide (x2 < (v1.cu.length:Int)) then
   av (idx v1.cu x2) fun e1=>
   av (kD e1) fun x3=>
   av (app aY.cu [x3]) fun x4=>
   wE kD v1 b_ (dG (x2 + 1)) (ah.mk aY.kind aY.je aY.jm aY.iK x4 aY.keys)
  else
   some aY
def Cc (kD:ah→Option ah) (v1:ah):Option ah:=
 av (gF v1.keys) fun x1=>
 wE kD v1 BIG 0 (ah.mk v1.kind v1.je v1.jm v1.iK [] x1)
def uQ :Nat→ah→Option ah
 | 0,_=>none
 | k + 1,vg=>Cc (uQ k) vg
def Fh (vg:ah):Option ah:=uQ BIG vg
def GA (v1:ah) (key1:Str):Option (ah × Bool):=
 av (mR v1.keys key1) fun i1=>
 if ((v1.kind != 5) || (decide (i1 < 0))) || (decide ((v1.cu.length:Int)≤i1)) then
  some ((ah.mk 0 false 0 ([]:Str) [] []),false)
 else
  av (idx v1.cu i1) fun e1=>
  av (Fh e1) fun x1=>
  some (x1,true)
def DZ (m1:ah) (key1:ah):Option (eP aH ah):=
 av (mJ m1 5) fun x1=>
 av (
   if x1 then
    mJ key1 3
   else
    some false) fun b1=>
 fO (f_ b1 9) (fun e1=>some (.bad e1)) fun _=>
 fU (GA m1 key1.iK) fun x3 ok1=>
 fO (f_ ok1 8) (fun e2=>some (.bad e2)) fun _=>
 some (.ok x3)
def D5 (a1:ah) (i1:ah):Option (eP aH ah):=
 av (mJ a1 4) fun x1=>
 av (
   if x1 then
    mJ i1 2
   else
    some false) fun b1=>
 if b1 then
  fO (f_ ((decide (0≤i1.jm)) && (decide (i1.jm < (a1.cu.length:Int)))) 8) (fun e1=>some (.bad e1)) fun _=>
  av (idx a1.cu i1.jm) fun e2=>
  some (.ok e2)
 else
  fO (DZ a1 i1) (fun e3=>some (.bad e3)) fun x3=>
  some (.ok x3)
def I9 (name1:Str):Option Int:=
 if name1 == ([108,101,110]:Str) then
  some 1
 else
  if name1 == ([108,111,119,101,114]:Str) then
   some 1
  else
   if name1 == ([117,112,112,101,114]:Str) then
    some 1
   else
    if name1 == ([115,116,114,105,110,103]:Str) then
     some 1
    else
     if name1 == ([105,110,116]:Str) then
      some 1
     else
      if name1 == ([107,101,121,115]:Str) then
       some 1
      else
       if name1 == ([99,111,110,116,97,105,110,115]:Str) then
        some 2
       else
        if name1 == ([106,111,105,110]:Str) then
         some 2
        else
         if name1 == ([115,112,108,105,116]:Str) then
          some 2
         else
          if name1 == ([115,116,97,114,116,115,119,105,116,104]:Str) then
           some 2
          else
           if name1 == ([101,110,100,115,119,105,116,104]:Str) then
            some 2
           else
            if name1 == ([100,101,102,97,117,108,116]:Str) then
             some 2
            else
             some 0
def qH (n1:Int):Option ah:=
 some (ah.mk 2 false n1 ([]:Str) [] [])
def D7 (l1:List ah):Option ah:=
 some (ah.mk 4 false 0 ([]:Str) l1 [])
def zZ (l1:List Str):Nat→Int→ah→Option ah
 | 0,_,_=>none
 | b_ + 1,x1,aY=>
  if decide (x1 < (l1.length:Int)) then
   av (idx l1 x1) fun s1=>
   av (uj s1) fun x2=>
   av (app aY.cu [x2]) fun x3=>
   zZ l1 b_ (dG (x1 + 1)) (ah.mk aY.kind aY.je aY.jm aY.iK x3 aY.keys)
  else
   some aY
def GR (l1:List Str):Option ah:=
 zZ l1 BIG 0 (ah.mk 4 false 0 ([]:Str) [] [])
def sW (b1:Bool):Option Str:=
 if b1 then
  some ([116,114,117,101]:Str)
 else
  some ([102,97,108,115,101]:Str)
def strconv_FormatBool (b1:Bool):Option Str:=
 sW b1
def strconv_Itoa (n1:Int):Option Str:=
 if -9223372036854775808≤n1∧n1≤9223372036854775807 then some (Un n1) else none
def mg (s1:Str):Nat→Int→Str→Option Str
 | 0,_,_=>none
 | b_ + 1,i1,b2=>
  if decide (i1 < (s1.length:Int)) then
   av (idx s1 i1) fun c1=>
   if ((c1.toNat:Int) == 34) || ((c1.toNat:Int) == 92) then
    av (app b2 [92]) fun b3=>
    av (app b3 [c1]) fun b4=>
    mg s1 b_ (dG (i1 + 1)) b4
   else
    if (c1.toNat:Int) == 10 then
     av (app b2 ([92,110]:Str)) fun b5=>
     mg s1 b_ (dG (i1 + 1)) b5
    else
     if (c1.toNat:Int) == 9 then
      av (app b2 ([92,116]:Str)) fun b6=>
      mg s1 b_ (dG (i1 + 1)) b6
     else
      if (decide (32≤(c1.toNat:Int))) && (decide ((c1.toNat:Int)≤126)) then
       av (app b2 [c1]) fun b7=>
       mg s1 b_ (dG (i1 + 1)) b7
      else
       av (app b2 ([92,120]:Str)) fun b8=>
       av (idx ([48,49,50,51,52,53,54,55,56,57,97,98,99,100,101,102]:Str) ((c1 / 16).toNat:Int)) fun x1=>
       av (app b8 [x1]) fun b9=>
       av (idx ([48,49,50,51,52,53,54,55,56,57,97,98,99,100,101,102]:Str) ((c1 % 16).toNat:Int)) fun x2=>
       av (app b9 [x2]) fun b10=>
       mg s1 b_ (dG (i1 + 1)) b10
  else
   app b2 [34]
def yP (s1:Str):Option Str:=
 av (app [] [34]) fun b1=>
 mg s1 BIG 0 b1
def strings_Join (l1:List Str) (t1:Str):Option Str:=
 if l1.length≤140737488355328∧(Lu l1 t1).length≤140737488355328 then some (Lu l1 t1) else none
def pI (fu:ah→Option Str) (v1:ah):Nat→List Str→Int→Option Str
 | 0,_,_=>none
 | b_ + 1,mU,i1=>
  if decide (i1 < (v1.cu.length:Int)) then
   av (idx v1.cu i1) fun e1=>
   if v1.kind == 5 then
    av (idx v1.keys i1) fun e2=>
    av (yP e2) fun x4=>
    av (app x4 ([58,32]:Str)) fun x5=>
    av (fu e1) fun x6=>
    av (app x5 x6) fun x7=>
    av (app mU ([x7]:List Str)) fun IL=>
    pI fu v1 b_ IL (dG (i1 + 1))
   else
    av (fu e1) fun x8=>
    av (app mU ([x8]:List Str)) fun IK=>
    pI fu v1 b_ IK (dG (i1 + 1))
  else
   av (strings_Join mU ([44,32]:Str)) fun s3=>
   if v1.kind == 5 then
    av (app ([123]:Str) s3) fun x9=>
    app x9 ([125]:Str)
   else
    av (app ([91]:Str) s3) fun Lb=>
    app Lb ([93]:Str)
def tX (fu:ah→Option Str) (v1:ah):Nat→List Str→Int→Option Str
 | 0,_,_=>none
 | IZ + 1,Cn,i2=>
  if decide (i2 < (v1.cu.length:Int)) then
   av (idx v1.cu i2) fun e3=>
   av (idx v1.keys i2) fun e4=>
   av (yP e4) fun UD=>
   av (app UD ([58,32]:Str)) fun Vp=>
   av (fu e3) fun X4=>
   av (app Vp X4) fun UC=>
   av (app Cn ([UC]:List Str)) fun Tf=>
   tX fu v1 IZ Tf (dG (i2 + 1))
  else
   av (strings_Join Cn ([44,32]:Str)) fun s5=>
   av (app ([123]:Str) s5) fun Vo=>
   app Vo ([125]:Str)
def zn (fu:ah→Option Str) (v1:ah):Option Str:=
 if v1.kind == 1 then
  strconv_FormatBool v1.je
 else
  if v1.kind == 2 then
   strconv_Itoa v1.jm
  else
   if v1.kind == 3 then
    yP v1.iK
   else
    if v1.kind == 4 then
     pI fu v1 BIG [] 0
    else
     if v1.kind == 5 then
      tX fu v1 BIG [] 0
     else
      some ([110,117,108,108]:Str)
def qL :Nat→ah→Option Str
 | 0,_=>none
 | k + 1,vg=>zn (qL k) vg
def Cb (vg:ah):Option Str:=qL BIG vg
def Dt (v1:ah):Option (Str × Int):=
 if (v1.kind == 4) || (v1.kind == 5) then
  some (([]:Str),9)
 else
  av (nC v1) fun e1=>
  if e1 != 0 then
   some (([]:Str),e1)
  else
   if v1.kind == 0 then
    some (([]:Str),0)
   else
    if v1.kind == 3 then
     some (v1.iK,0)
    else
     av (Cb v1) fun x1=>
     some (x1,0)
def tC (s1:Str) (lo1:UInt8) (hi1:UInt8) (XV:Int):Nat→Int→Str→Option Str
 | 0,_,_=>none
 | b_ + 1,i1,b1=>
  if decide (i1 < (s1.length:Int)) then
   av (idx s1 i1) fun x1=>
   av (
     if decide ((lo1.toNat:Int)≤(x1.toNat:Int)) then
      av (idx s1 i1) fun x2=>
      some (decide ((x2.toNat:Int)≤(hi1.toNat:Int)))
     else
      some false) fun b2=>
   if b2 then
    av (idx s1 i1) fun x3=>
    av (app b1 [(Ft.byteOf (dG ((x3.toNat:Int) + XV)))]) fun b3=>
    tC s1 lo1 hi1 XV b_ (dG (i1 + 1)) b3
   else
    av (idx s1 i1) fun x4=>
    av (app b1 [x4]) fun b4=>
    tC s1 lo1 hi1 XV b_ (dG (i1 + 1)) b4
  else
   some b1
def BM (s1:Str) (lo1:UInt8) (hi1:UInt8) (XV:Int):Option Str:=
 tC s1 lo1 hi1 XV BIG 0 []
def strconv_Atoi (s1:Str):Option (Int × Option Nat):=
 if s1.length≤281474976710656 then some ((Qd s1).2,if (Qd s1).1=0 then none else some 321) else none
def FT (s1:Str):Option (Int × Bool):=
 fU (strconv_Atoi s1) fun n1 Bt=>
 av (
   if Bt.isSome then
    some true
   else
    av (strconv_Itoa n1) fun x1=>
    some (!(x1 == s1))) fun b1=>
 if (b1 || (decide (n1 < (-9007199254740992)))) || (decide (9007199254740992 < n1)) then
  some (0,false)
 else
  some (n1,true)
def NR (name1:Str) (v1:ah):Option (eP aH ah):=
 if name1 == ([108,101,110]:Str) then
  av (mJ v1 3) fun x1=>
  av (
    if x1 then
     some true
    else
     mJ v1 4) fun b1=>
  av (
    if b1 then
     some true
    else
     mJ v1 5) fun b2=>
  fO (f_ b2 9) (fun e1=>some (.bad e1)) fun _=>
  av (qH (dG ((v1.iK.length:Int) + (v1.cu.length:Int)))) fun x4=>
  some (.ok x4)
 else
  if name1 == ([107,101,121,115]:Str) then
   av (mJ v1 5) fun x5=>
   fO (f_ x5 9) (fun e2=>some (.bad e2)) fun _=>
   av (GR v1.keys) fun x6=>
   some (.ok x6)
  else
   if name1 == ([115,116,114,105,110,103]:Str) then
    fU (Dt v1) fun t1 e3=>
    fO (f_ (e3 == 0) e3) (fun e4=>some (.bad e4)) fun _=>
    av (uj t1) fun x7=>
    some (.ok x7)
   else
    av (mJ v1 3) fun x8=>
    fO (f_ x8 9) (fun e5=>some (.bad e5)) fun _=>
    if name1 == ([108,111,119,101,114]:Str) then
     av (BM v1.iK 65 90 32) fun x9=>
     av (uj x9) fun Kn=>
     some (.ok Kn)
    else
     if name1 == ([117,112,112,101,114]:Str) then
      av (BM v1.iK 97 122 (-32)) fun Lb=>
      av (uj Lb) fun Rl=>
      some (.ok Rl)
     else
      fU (FT v1.iK) fun n1 ok1=>
      fO (f_ ok1 1) (fun e6=>some (.bad e6)) fun _=>
      av (qH n1) fun UD=>
      some (.ok UD)
def Bz (b1:Bool):Option Int:=
 if b1 then
  some 1
 else
  some 0
def dN (vO:List ah) (xS:List ah) (F3:ah→ah→Option Int):Nat→Int→Option Int
 | 0,_=>none
 | b_ + 1,i1=>
  if decide (i1 < (vO.length:Int)) then
   av (idx vO i1) fun e1=>
   if decide ((xS.length:Int)≤i1) then
    some 1
   else
    av (idx xS i1) fun e2=>
    av (F3 e1 e2) fun c1=>
    if c1 != 0 then
     some c1
    else
     dN vO xS F3 b_ (dG (i1 + 1))
  else
   if decide ((vO.length:Int) < (xS.length:Int)) then
    some (-1)
   else
    some 0
def dV (vO:List ah) (xS:List ah) (F3:ah→ah→Option Int):Option Int:=
 dN vO xS F3 BIG 0
def fq (vO:List Str) (xS:List Str) (F3:Str→Str→Option Int):Nat→Int→Option Int
 | 0,_=>none
 | b_ + 1,i1=>
  if decide (i1 < (vO.length:Int)) then
   av (idx vO i1) fun abl=>
   if decide ((xS.length:Int)≤i1) then
    some 1
   else
    av (idx xS i1) fun abk=>
    av (F3 abl abk) fun c1=>
    if c1 != 0 then
     some c1
    else
     fq vO xS F3 b_ (dG (i1 + 1))
  else
   if decide ((vO.length:Int) < (xS.length:Int)) then
    some (-1)
   else
    some 0
def gY (vO:List Str) (xS:List Str) (F3:Str→Str→Option Int):Option Int:=
 fq vO xS F3 BIG 0
def zo (jV:ah→ah→Option Int) (a1:ah) (b1:ah):Option Int:=
 av (cmp_Compare_int a1.kind b1.kind) fun c1=>
 if c1 != 0 then
  some c1
 else
  if a1.kind == 1 then
   av (Bz a1.je) fun x1=>
   av (Bz b1.je) fun x2=>
   cmp_Compare_int x1 x2
  else
   if a1.kind == 2 then
    cmp_Compare_int a1.jm b1.jm
   else
    if a1.kind == 3 then
     qI a1.iK b1.iK
    else
     if a1.kind == 4 then
      dV a1.cu b1.cu jV
     else
      if a1.kind == 5 then
       av (gY a1.keys b1.keys ru) fun c2=>
       if c2 != 0 then
        some c2
       else
        dV a1.cu b1.cu jV
      else
       some 0
def qM :Nat→ah→ah→Option Int
 | 0,_,_=>none
 | k + 1,zq,qN=>zo (qM k) zq qN
def Ce (zq:ah) (qN:ah):Option Int:=qM BIG zq qN
def yQ (a1:ah) (b1:ah):Option Bool:=
 av (Ce a1 b1) fun x1=>
 some (x1 == 0)
def rz (a1:ah) (b1:ah) (ER:Int):Option Bool:=
 some ((a1.kind == ER) && (b1.kind == ER))
def strings_Contains (s1:Str) (t1:Str):Option Bool:=
 if s1.length < 4294967281 then some (zH s1 t1).isSome else none
def um (a1:ah) (b1:ah):Nat→Int→Option (eP aH Bool)
 | 0,_=>none
 | b_ + 1,x2=>
  if decide (x2 < (a1.cu.length:Int)) then
   av (idx a1.cu x2) fun e1=>
   av (yQ e1 b1) fun x3=>
   if x3 then
    some (.ok true)
   else
    um a1 b1 b_ (dG (x2 + 1))
  else
   some (.ok false)
def Cy (a1:ah) (b1:ah):Option (eP aH Bool):=
 av (mJ a1 4) fun x1=>
 if x1 then
  um a1 b1 BIG 0
 else
  av (rz a1 b1 3) fun x4=>
  if x4 then
   av (strings_Contains a1.iK b1.iK) fun x5=>
   some (.ok x5)
  else
   av (mJ a1 5) fun x6=>
   av (
     if x6 then
      mJ b1 3
     else
      some false) fun b2=>
   fO (f_ b2 9) (fun e2=>some (.bad e2)) fun _=>
   fU (GA a1 b1.iK) fun x8 ok1=>
   some (.ok ok1)
def jX (b1:Bool):Option ah:=
 some (ah.mk 1 b1 0 ([]:Str) [] [])
def w_ (a1:ah) (b1:ah):Nat→Int→List Str→Int→Option (eP aH ah)
 | 0,_,_,_=>none
 | b_ + 1,n1,l1,x3=>
  if decide (x3 < (a1.cu.length:Int)) then
   av (idx a1.cu x3) fun e2=>
   av (mJ e2 3) fun x4=>
   fO (f_ x4 9) (fun e3=>some (.bad e3)) fun _=>
   av (app l1 ([e2.iK]:List Str)) fun l2=>
   w_ a1 b1 b_ (dG (n1 + (e2.iK.length:Int))) l2 (dG (x3 + 1))
  else
   fO (f_ (decide ((dG (n1 + (dG ((b1.iK.length:Int) * (if 0 < (dG ((l1.length:Int) - 1)) then (dG ((l1.length:Int) - 1)) else 0)))))≤4096)) 3) (fun e4=>some (.bad e4)) fun _=>
   av (strings_Join l1 b1.iK) fun x5=>
   av (uj x5) fun x6=>
   some (.ok x6)
def FU (a1:ah) (b1:ah):Option (eP aH ah):=
 av (mJ a1 4) fun x1=>
 av (
   if x1 then
    mJ b1 3
   else
    some false) fun b2=>
 fO (f_ b2 9) (fun e1=>some (.bad e1)) fun _=>
 w_ a1 b1 BIG 0 [] 0
def strings_HasPrefix (s1:Str) (lQ:Str):Option Bool:=
 mI s1 lQ
def strings_HasSuffix (s1:Str) (lN:Str):Option Bool:=
 mH s1 lN
def strings_Split (s1:Str) (t1:Str):Option (List Str):=
 if s1.length < 4294967281∧t1≠[] then some (Dy t1 (s1.length + 1) s1) else none
def NN (name1:Str) (a1:ah) (b1:ah):Option (eP aH ah):=
 if name1 == ([100,101,102,97,117,108,116]:Str) then
  av (mJ a1 0) fun x1=>
  if x1 then
   some (.ok b1)
  else
   some (.ok a1)
 else
  if name1 == ([99,111,110,116,97,105,110,115]:Str) then
   fO (Cy a1 b1) (fun e1=>some (.bad e1)) fun x2=>
   av (jX x2) fun x3=>
   some (.ok x3)
  else
   if name1 == ([106,111,105,110]:Str) then
    fO (FU a1 b1) (fun e2=>some (.bad e2)) fun x4=>
    some (.ok x4)
   else
    av (rz a1 b1 3) fun x5=>
    fO (f_ x5 9) (fun e3=>some (.bad e3)) fun _=>
    if name1 == ([115,116,97,114,116,115,119,105,116,104]:Str) then
     av (strings_HasPrefix a1.iK b1.iK) fun x6=>
     av (jX x6) fun x7=>
     some (.ok x7)
    else
     if name1 == ([101,110,100,115,119,105,116,104]:Str) then
      av (strings_HasSuffix a1.iK b1.iK) fun x8=>
      av (jX x8) fun x9=>
      some (.ok x9)
     else
      fO (f_ (!(b1.iK == ([]:Str))) 1) (fun e4=>some (.bad e4)) fun _=>
      av (strings_Split a1.iK b1.iK) fun l1=>
      fO (f_ (decide ((l1.length:Int)≤1024)) 3) (fun e5=>some (.bad e5)) fun _=>
      av (GR l1) fun Kn=>
      some (.ok Kn)
def xZ (v1:ah):Option (eP aH Bool):=
 av (mJ v1 1) fun x1=>
 fO (f_ x1 9) (fun e1=>some (.bad e1)) fun _=>
 some (.ok v1.je)
def I7 (op1:Str) (v1:ah):Option (eP aH ah):=
 if op1 == ([33]:Str) then
  fO (xZ v1) (fun e1=>some (.bad e1)) fun x1=>
  av (jX (!x1)) fun x2=>
  some (.ok x2)
 else
  av (mJ v1 2) fun x3=>
  fO (f_ x3 9) (fun e2=>some (.bad e2)) fun _=>
  av (qH (dG (0 - v1.jm))) fun x4=>
  some (.ok x4)
def yg (a1:ah) (b1:ah):Option (eP aH Int):=
 av (rz a1 b1 2) fun x1=>
 av (
   if x1 then
    some true
   else
    rz a1 b1 3) fun b2=>
 fO (f_ b2 9) (fun e1=>some (.bad e1)) fun _=>
 av (Ce a1 b1) fun x3=>
 some (.ok x3)
def wm (n1:Int):Option (eP aH ah):=
 fO (f_ ((decide ((-9007199254740992)≤n1)) && (decide (n1≤9007199254740992))) 11) (fun e1=>some (.bad e1)) fun _=>
 av (qH n1) fun x1=>
 some (.ok x1)
def NP (a1:ah) (b1:ah):Option (eP aH ah):=
 av (rz a1 b1 2) fun x1=>
 if x1 then
  fO (wm (dG (a1.jm + b1.jm))) (fun e1=>some (.bad e1)) fun x2=>
  some (.ok x2)
 else
  av (rz a1 b1 3) fun x3=>
  if x3 then
   fO (f_ (decide ((dG ((a1.iK.length:Int) + (b1.iK.length:Int)))≤4096)) 3) (fun e2=>some (.bad e2)) fun _=>
   av (app a1.iK b1.iK) fun x4=>
   av (uj x4) fun x5=>
   some (.ok x5)
  else
   av (rz a1 b1 4) fun x6=>
   fO (f_ x6 9) (fun e3=>some (.bad e3)) fun _=>
   fO (f_ (decide ((dG ((a1.cu.length:Int) + (b1.cu.length:Int)))≤1024)) 3) (fun e4=>some (.bad e4)) fun _=>
   av (app [] a1.cu) fun l1=>
   av (app l1 b1.cu) fun x7=>
   av (D7 x7) fun x8=>
   some (.ok x8)
def JJ (n1:Int):Option (BitVec 64):=
 if decide (n1 < 0) then
  some (-(BitVec.ofInt 64 n1))
 else
  some (BitVec.ofInt 64 n1)
def DR (a1:Int) (b1:Int):Option jl:=
 av (JJ a1) fun x1=>
 av (JJ b1) fun y1=>
 av (some ((x1 &&& (4294967295:BitVec 64)) * (y1 &&& (4294967295:BitVec 64)))) fun Nz=>
 av (some ((x1 >>> 32) * (y1 &&& (4294967295:BitVec 64)))) fun x2=>
 av (some ((x1 &&& (4294967295:BitVec 64)) * (y1 >>> 32))) fun x3=>
 av (some ((x2 + (Nz >>> 32)) &&& (4294967295:BitVec 64))) fun x4=>
 av (some (((x1 >>> 32) * (y1 >>> 32)) + ((x2 + (Nz >>> 32)) >>> 32))) fun x5=>
 av (some (((x3 + x4) <<< 32) ||| (Nz &&& (4294967295:BitVec 64)))) fun x6=>
 some (jl.mk ([(x5 + ((x3 + x4) >>> 32)),x6]:List (BitVec 64)) ((!((decide (a1 < 0)) == (decide (b1 < 0)))) && (!decide (([((x5 + ((x3 + x4) >>> 32)).toNat:Int),(x6.toNat:Int)]:List Int)=([0,0]:List Int)))))
def vQ (p1:jl):Option (Int × Bool):=
 if ((p1.half.getD 0 0).toNat:Int) != 0 then
  some (0,false)
 else
  if p1.neg && (decide (((p1.half.getD 1 0).toNat:Int)≤9223372036854775808)) then
   some ((dG ((-(p1.half.getD 1 0)).toNat:Int)),true)
  else
   if (!p1.neg) && (decide (((p1.half.getD 1 0).toNat:Int)≤9223372036854775807)) then
    some ((dG ((p1.half.getD 1 0).toNat:Int)),true)
   else
    some (0,false)
def QB (Yi:Bool):Option Int:=
 if Yi then
  some (-9223372036854775808)
 else
  some 9223372036854775807
def QE (a1:Int) (b1:Int):Option Int:=
 av (DR a1 b1) fun x1=>
 fU (vQ x1) fun n1 ok1=>
 if ok1 then
  some n1
 else
  QB x1.neg
def zJ (op1:Str) (a1:ah) (b1:ah):Option (eP aH ah):=
 av (rz a1 b1 2) fun x1=>
 fO (f_ x1 9) (fun e1=>some (.bad e1)) fun _=>
 if op1 == ([45]:Str) then
  fO (wm (dG (a1.jm - b1.jm))) (fun e2=>some (.bad e2)) fun x2=>
  some (.ok x2)
 else
  if op1 == ([42]:Str) then
   av (QE a1.jm b1.jm) fun x3=>
   fO (wm x3) (fun e3=>some (.bad e3)) fun x4=>
   some (.ok x4)
  else
   fO (f_ (b1.jm != 0) 12) (fun e4=>some (.bad e4)) fun _=>
   if op1 == ([47]:Str) then
    av (chk (!(b1.jm == 0))) fun _=>
    fO (wm (dG ((a1.jm:Int).tdiv b1.jm))) (fun e5=>some (.bad e5)) fun x5=>
    some (.ok x5)
   else
    av (chk (!(b1.jm == 0))) fun _=>
    av (qH ((a1.jm:Int).tmod b1.jm)) fun x6=>
    some (.ok x6)
def u_ (bZ:Int) (x1:ah):Int:=if (x1.kind == 4 || x1.kind == 5) && ((x1.cu.length:Int) == 0) then dG (bZ + 1) else bZ
def wC (Y2:Int) (bZ:Int) (x1:ah):Option (Bool × Int):=
 some (true,if Y2 < u_ bZ x1 then u_ bZ x1 else Y2)
def Dr (v1:ah):Option Int:=
 fU (IE wC 0 v1 1) fun _ s1=>
 some s1
def yD (y1:aB) (c1:aB):Option Bool:=
 some (y1.name == c1.name)
def iN (s1:List aB) (f1:aB→Option Bool):Nat→Int→Option Int
 | 0,_=>none
 | b_ + 1,i1=>
  if decide (i1 < (s1.length:Int)) then
   av (idx s1 i1) fun e1=>
   av (f1 e1) fun x1=>
   if x1 then
    some i1
   else
    iN s1 f1 b_ (dG (i1 + 1))
  else
   some (-1)
def jh (s1:List aB) (f1:aB→Option Bool):Option Int:=
 iN s1 f1 BIG 0
def jS (s1:List aB) (f1:aB→Option Bool):Option Bool:=
 av (jh s1 f1) fun x1=>
 some (decide (0≤x1))
def Fg (dH:List aB) (i1:Int):Option Int:=
 av (idx dH i1) fun e1=>
 if (decide ((e1.name.length:Int) < 1)) || (decide (64 < (e1.name.length:Int))) then
  some 1
 else
  av (nC e1.value) fun e2=>
  if e2 != 0 then
   some e2
  else
   av (Dr e1.value) fun x1=>
   if decide (16≤x1) then
    some 13
   else
    av (sl dH 0 i1) fun x2=>
    av (jS x2 (fun z0=>yD z0 e1)) fun x3=>
    if x3 then
     some 7
    else
     some 0
def fQ (s1:List aB):Option (List aB):=
 app [] s1
def Lc (a1:aB) (b1:aB):Option Int:=
 ru a1.name b1.name
def zR (vD:List aB):Nat→Int→ah→Option (ah × Int)
 | 0,_,_=>none
 | IZ + 1,x1,aY=>
  if decide (x1 < (vD.length:Int)) then
   av (idx vD x1) fun e2=>
   av (app aY.keys ([e2.name]:List Str)) fun x2=>
   av (Fh e2.value) fun x3=>
   av (app aY.cu [x3]) fun x4=>
   zR vD IZ (dG (x1 + 1)) (ah.mk aY.kind aY.je aY.jm aY.iK x4 x2)
  else
   some (aY,0)
def zS (dH:List aB):Nat→Int→Option (ah × Int)
 | 0,_=>none
 | b_ + 1,i1=>
  if decide (i1 < (dH.length:Int)) then
   av (Fg dH i1) fun e1=>
   if e1 != 0 then
    some ((ah.mk 0 false 0 ([]:Str) [] []),e1)
   else
    zS dH b_ (dG (i1 + 1))
  else
   av (fQ dH) fun Uc=>
   av (V4 (fun x=>x.name) Uc) fun vD=>
   zR vD BIG 0 (ah.mk 5 false 0 ([]:Str) [] [])
def Ku (dH:List aB):Option (ah × Int):=
 if decide (1024 < (dH.length:Int)) then
  some ((ah.mk 0 false 0 ([]:Str) [] []),3)
 else
  zS dH BIG 0
def wZ (bF:List aB→aj→Option (eP aH ah)) (dn:List aB→aj→Option (eP aH ah)) (cZ:List aB→List aj→Option (eP aH (List ah))) (bY:List aB→aj→Option (eP aH ah)) (bV:List aB→aj→Option (eP aH ah)) (s1:List aB) (e1:aj):Option (eP aH ah):=
 if e1.kind == 1 then
  some (.ok e1.value)
 else
  if e1.kind == 2 then
   fO (zI s1 e1.name) (fun e2=>some (.bad e2)) fun x1=>
   some (.ok x1)
  else
   if e1.kind == 3 then
    av (idx e1.args 0) fun e3=>
    fO (bF s1 e3) (fun e4=>some (.bad e4)) fun x2=>
    av (uj e1.name) fun x3=>
    fO (DZ x2 x3) (fun e5=>some (.bad e5)) fun x4=>
    some (.ok x4)
   else
    if e1.kind == 4 then
     av (idx e1.args 0) fun e6=>
     fO (bF s1 e6) (fun e7=>some (.bad e7)) fun x5=>
     av (idx e1.args 1) fun e8=>
     fO (bF s1 e8) (fun e9=>some (.bad e9)) fun x6=>
     fO (D5 x5 x6) (fun e10=>some (.bad e10)) fun x7=>
     some (.ok x7)
    else
     if e1.kind == 5 then
      fO (dn s1 e1) (fun e11=>some (.bad e11)) fun x8=>
      some (.ok x8)
     else
      if e1.kind == 6 then
       av (idx e1.args 0) fun e12=>
       fO (bF s1 e12) (fun e13=>some (.bad e13)) fun x9=>
       fO (I7 e1.name x9) (fun e14=>some (.bad e14)) fun Kn=>
       some (.ok Kn)
      else
       if e1.kind == 7 then
        fO (bY s1 e1) (fun e15=>some (.bad e15)) fun Lb=>
        some (.ok Lb)
       else
        if e1.kind == 8 then
         av (idx e1.args 0) fun e16=>
         fO (bF s1 e16) (fun e17=>some (.bad e17)) fun Rl=>
         fO (xZ Rl) (fun e18=>some (.bad e18)) fun UD=>
         if UD then
          av (idx e1.args 1) fun e19=>
          fO (bF s1 e19) (fun e20=>some (.bad e20)) fun Vp=>
          some (.ok Vp)
         else
          av (idx e1.args 2) fun e21=>
          fO (bF s1 e21) (fun e22=>some (.bad e22)) fun X4=>
          some (.ok X4)
        else
         if e1.kind == 9 then
          fO (cZ s1 e1.args) (fun e23=>some (.bad e23)) fun UC=>
          av (D7 UC) fun Vo=>
          av (nC Vo) fun X3=>
          fO (f_ (X3 == 0) 13) (fun e24=>some (.bad e24)) fun _=>
          some (.ok Vo)
         else
          fO (bV s1 e1) (fun e25=>some (.bad e25)) fun YG=>
          some (.ok YG)
def w9 (bF:List aB→aj→Option (eP aH ah)) (dn:List aB→aj→Option (eP aH ah)) (cZ:List aB→List aj→Option (eP aH (List ah))) (bY:List aB→aj→Option (eP aH ah)) (bV:List aB→aj→Option (eP aH ah)) (s1:List aB) (e1:aj):Option (eP aH ah):=
 av (I9 e1.name) fun n1=>
 fO (f_ (decide (0 < n1)) 10) (fun e2=>some (.bad e2)) fun _=>
 fO (f_ ((e1.args.length:Int) == n1) 1) (fun e3=>some (.bad e3)) fun _=>
 fO (cZ s1 e1.args) (fun e4=>some (.bad e4)) fun args1=>
 if n1 == 1 then
  av (idx args1 0) fun e5=>
  fO (NR e1.name e5) (fun e6=>some (.bad e6)) fun x1=>
  some (.ok x1)
 else
  av (idx args1 0) fun e7=>
  av (idx args1 1) fun e8=>
  fO (NN e1.name e7 e8) (fun e9=>some (.bad e9)) fun x2=>
  some (.ok x2)
def rR (bF:List aB→aj→Option (eP aH ah)) (s1:List aB) (l1:List aj):Nat→List ah→Int→Option (eP aH (List ah))
 | 0,_,_=>none
 | b_ + 1,aY,x1=>
  if decide (x1 < (l1.length:Int)) then
   av (idx l1 x1) fun e1=>
   fO (bF s1 e1) (fun e2=>some (.bad e2)) fun x2=>
   av (app aY [x2]) fun j6=>
   rR bF s1 l1 b_ j6 (dG (x1 + 1))
  else
   some (.ok aY)
def yc (bF:List aB→aj→Option (eP aH ah)) (dn:List aB→aj→Option (eP aH ah)) (cZ:List aB→List aj→Option (eP aH (List ah))) (bY:List aB→aj→Option (eP aH ah)) (bV:List aB→aj→Option (eP aH ah)) (s1:List aB) (l1:List aj):Option (eP aH (List ah)):=
 rR bF s1 l1 BIG [] 0
def uM (bF:List aB→aj→Option (eP aH ah)) (dn:List aB→aj→Option (eP aH ah)) (cZ:List aB→List aj→Option (eP aH (List ah))) (bY:List aB→aj→Option (eP aH ah)) (bV:List aB→aj→Option (eP aH ah)) (s1:List aB) (e1:aj):Option (eP aH ah):=
 av (idx e1.args 0) fun e2=>
 fO (bF s1 e2) (fun e3=>some (.bad e3)) fun x1=>
 if (e1.name == ([38,38]:Str)) || (e1.name == ([124,124]:Str)) then
  fO (xZ x1) (fun e4=>some (.bad e4)) fun x2=>
  if x2 == (e1.name == ([124,124]:Str)) then
   some (.ok x1)
  else
   av (idx e1.args 1) fun e5=>
   fO (bF s1 e5) (fun e6=>some (.bad e6)) fun x3=>
   fO (xZ x3) (fun e7=>some (.bad e7)) fun x4=>
   av (jX x4) fun x5=>
   some (.ok x5)
 else
  av (idx e1.args 1) fun e8=>
  fO (bF s1 e8) (fun e9=>some (.bad e9)) fun x6=>
  if e1.name == ([61,61]:Str) then
   av (yQ x1 x6) fun x7=>
   av (jX x7) fun x8=>
   some (.ok x8)
  else
   if e1.name == ([33,61]:Str) then
    av (yQ x1 x6) fun x9=>
    av (jX (!x9)) fun Kn=>
    some (.ok Kn)
   else
    if e1.name == ([60]:Str) then
     fO (yg x1 x6) (fun e10=>some (.bad e10)) fun Lb=>
     av (jX (decide (Lb < 0))) fun Rl=>
     some (.ok Rl)
    else
     if e1.name == ([60,61]:Str) then
      fO (yg x1 x6) (fun e11=>some (.bad e11)) fun UD=>
      av (jX (decide (UD≤0))) fun Vp=>
      some (.ok Vp)
     else
      if e1.name == ([62]:Str) then
       fO (yg x1 x6) (fun e12=>some (.bad e12)) fun X4=>
       av (jX (decide (0 < X4))) fun UC=>
       some (.ok UC)
      else
       if e1.name == ([62,61]:Str) then
        fO (yg x1 x6) (fun e13=>some (.bad e13)) fun Vo=>
        av (jX (decide (0≤Vo))) fun X3=>
        some (.ok X3)
       else
        if e1.name == ([43]:Str) then
         fO (NP x1 x6) (fun e14=>some (.bad e14)) fun YG=>
         some (.ok YG)
        else
         fO (zJ e1.name x1 x6) (fun e15=>some (.bad e15)) fun x20=>
         some (.ok x20)
def nW (e1:aj) (x1:List ah):Nat→List aB→Int→Option (eP aH ah)
 | 0,_,_=>none
 | b_ + 1,dH,i1=>
  if decide (i1 < (x1.length:Int)) then
   av (idx x1 i1) fun e3=>
   av (idx e1.keys i1) fun e4=>
   av (app dH [(aB.mk e4 e3)]) fun VE=>
   nW e1 x1 b_ VE (dG (i1 + 1))
  else
   fU (Ku dH) fun x2 tK=>
   fO (f_ (tK == 0) tK) (fun e5=>some (.bad e5)) fun _=>
   some (.ok x2)
def tu (bF:List aB→aj→Option (eP aH ah)) (dn:List aB→aj→Option (eP aH ah)) (cZ:List aB→List aj→Option (eP aH (List ah))) (bY:List aB→aj→Option (eP aH ah)) (bV:List aB→aj→Option (eP aH ah)) (s1:List aB) (e1:aj):Option (eP aH ah):=
 fO (cZ s1 e1.args) (fun e2=>some (.bad e2)) fun x1=>
 nW e1 x1 BIG [] 0
mutual
def gu :Nat→List aB→aj→Option (eP aH ah)
 | 0,_,_=>none
 | k + 1,qx,jN=>wZ (gu k) (gy k) (gQ k) (fG k) (fB k) qx jN
def gy :Nat→List aB→aj→Option (eP aH ah)
 | 0,_,_=>none
 | k + 1,qx,jN=>w9 (gu k) (gy k) (gQ k) (fG k) (fB k) qx jN
def gQ :Nat→List aB→List aj→Option (eP aH (List ah))
 | 0,_,_=>none
 | k + 1,qx,Vr=>yc (gu k) (gy k) (gQ k) (fG k) (fB k) qx Vr
def fG :Nat→List aB→aj→Option (eP aH ah)
 | 0,_,_=>none
 | k + 1,qx,jN=>uM (gu k) (gy k) (gQ k) (fG k) (fB k) qx jN
def fB :Nat→List aB→aj→Option (eP aH ah)
 | 0,_,_=>none
 | k + 1,qx,jN=>tu (gu k) (gy k) (gQ k) (fG k) (fB k) qx jN
end
def Ey (qx:List aB) (jN:aj):Option (eP aH ah):=gu BIG qx jN
def Mi (qx:List aB) (jN:aj):Option (eP aH ah):=gy BIG qx jN
def NQ (qx:List aB) (Vr:List aj):Option (eP aH (List ah)):=gQ BIG qx Vr
def JZ (qx:List aB) (jN:aj):Option (eP aH ah):=fG BIG qx jN
def I8 (qx:List aB) (jN:aj):Option (eP aH ah):=fB BIG qx jN
def AU (s1:List aB) (e1:aj):Option (ah × Int):=
 fO (Ey s1 e1) (fun f1=>some ((ah.mk 0 false 0 ([]:Str) [] []),f1.code)) fun v1=>
 some (v1,0)
def yJ (kX:ah→Option ah) (v1:ah):Nat→Int→ah→Option ah
 | 0,_,_=>none
 | b_ + 1,x1,aY=>
  if decide (x1 < (v1.cu.length:Int)) then
   av (idx v1.cu x1) fun e1=>
   av (kX e1) fun x2=>
   av (app aY.cu [x2]) fun x3=>
   yJ kX v1 b_ (dG (x1 + 1)) (ah.mk aY.kind aY.je aY.jm aY.iK x3 aY.keys)
  else
   av (app aY.keys v1.keys) fun x4=>
   some (ah.mk aY.kind aY.je aY.jm aY.iK aY.cu x4)
def D6 (kX:ah→Option ah) (v1:ah):Option ah:=
 yJ kX v1 BIG 0 (ah.mk v1.kind v1.je v1.jm v1.iK [] [])
def xg :Nat→ah→Option ah
 | 0,_=>none
 | k + 1,vg=>D6 (xg k) vg
def NS (vg:ah):Option ah:=xg BIG vg
def Dc (e1:aj) (mq:List aB):Option (ah × Int):=
 fU (FR e1 mq) fun s1 f1=>
 if f1 != 0 then
  some ((ah.mk 0 false 0 ([]:Str) [] []),f1)
 else
  fU (AU s1 e1) fun x1 f2=>
  av (NS x1) fun x2=>
  some (x2,f2)
def Ak (oC:aJ→Option aJ) (t1:aJ):Option aJ:=
 av (l7 t1.kind) fun x1=>
 if !x1 then
  kr t1.kind
 else
  av (idx t1.elem 0) fun e1=>
  av (oC e1) fun x3=>
  xQ t1.kind x3
def su :Nat→aJ→Option aJ
 | 0,_=>none
 | k + 1,Vq=>Ak (su k) Vq
def Dv (Vq:aJ):Option aJ:=su BIG Vq
def Ci (p8:aJ→aJ→Option aJ) (a1:aJ) (b1:aJ):Option aJ:=
 if a1.kind == 7 then
  Dv b1
 else
  if b1.kind == 7 then
   Dv a1
  else
   if a1.kind != b1.kind then
    kr 0
   else
    av (l7 a1.kind) fun x4=>
    if x4 then
     av (idx a1.elem 0) fun e1=>
     av (idx b1.elem 0) fun e2=>
     av (p8 e1 e2) fun x5=>
     xQ a1.kind x5
    else
     kr a1.kind
def uR :Nat→aJ→aJ→Option aJ
 | 0,_,_=>none
 | k + 1,zq,qN=>Ci (uR k) zq qN
def Ld (zq:aJ) (qN:aJ):Option aJ:=uR BIG zq qN
def wF (kE:ah→Option aJ) (v1:ah):Nat→Int→aJ→Option aJ
 | 0,_,_=>none
 | b_ + 1,x6,xO=>
  if decide (x6 < (v1.cu.length:Int)) then
   av (idx v1.cu x6) fun e1=>
   av (kE e1) fun x7=>
   av (Ld xO x7) fun x8=>
   wF kE v1 b_ (dG (x6 + 1)) x8
  else
   if v1.kind == 4 then
    xQ 5 xO
   else
    xQ 6 xO
def Cj (kE:ah→Option aJ) (v1:ah):Option aJ:=
 if v1.kind == 0 then
  kr 1
 else
  if v1.kind == 1 then
   kr 2
  else
   if v1.kind == 2 then
    kr 3
   else
    if v1.kind == 3 then
     kr 4
    else
     av (kr 7) fun x5=>
     wF kE v1 BIG 0 x5
def uS :Nat→ah→Option aJ
 | 0,_=>none
 | k + 1,vg=>Cj (uS k) vg
def Lf (vg:ah):Option aJ:=uS BIG vg
def vk :Nat→Int→aJ→Option Int
 | 0,_,_=>none
 | b_ + 1,bZ,t2=>
  if decide (16 < bZ) then
   some 13
  else
   av (yR t2.kind) fun x1=>
   av (
     if x1 == ([]:Str) then
      some true
     else
      av (l7 t2.kind) fun x2=>
      some (x2 && ((t2.elem.length:Int) != 1))) fun b1=>
   av (
     if b1 then
      some true
     else
      av (l7 t2.kind) fun x3=>
      some ((!x3) && ((t2.elem.length:Int) != 0))) fun b2=>
   if b2 then
    some 1
   else
    av (l7 t2.kind) fun x4=>
    if !x4 then
     some 0
    else
     av (idx t2.elem 0) fun e1=>
     vk b_ (dG (bZ + 1)) e1
def zT (t1:aJ):Option Int:=
 vk BIG 1 t1
def Fp (a1:aJ) (b1:aJ):Option Bool:=
 av (zT a1) fun x1=>
 if x1 == 0 then
  av (zT b1) fun x2=>
  some (x2 == 0)
 else
  some false
def zu (nI:aJ→aJ→Option Bool) (a1:aJ) (b1:aJ):Option Bool:=
 if (a1.kind == 7) || (b1.kind == 0) then
  some true
 else
  if a1.kind != b1.kind then
   some false
  else
   av (l7 a1.kind) fun x1=>
   if x1 then
    av (idx a1.elem 0) fun e1=>
    av (idx b1.elem 0) fun e2=>
    nI e1 e2
   else
    some true
def qO :Nat→aJ→aJ→Option Bool
 | 0,_,_=>none
 | k + 1,zq,qN=>zu (qO k) zq qN
def H6 (zq:aJ) (qN:aJ):Option Bool:=qO BIG zq qN
def IJ (a1:aJ) (b1:aJ):Option Bool:=
 av (Fp a1 b1) fun x1=>
 if x1 then
  H6 a1 b1
 else
  some false
def BA (v1:ah) (t1:aJ):Option Bool:=
 av (nC v1) fun x1=>
 if x1 == 0 then
  av (Lf v1) fun x2=>
  IJ x2 t1
 else
  some false
def rH (b1:au):Nat→Int→Option (bN × Int)
 | 0,_=>none
 | b_ + 1,x2=>
  if decide (x2 < (b1.attrs.length:Int)) then
   av (idx b1.attrs x2) fun e1=>
   if (!(e1.name == ([116,121,112,101]:Str))) && (!(e1.name == ([100,101,102,97,117,108,116]:Str))) then
    some ((bN.mk ([]:Str) (aJ.mk 0 []) false (ah.mk 0 false 0 ([]:Str) [] [])),10)
   else
    rH b1 b_ (dG (x2 + 1))
  else
   fU (yZ b1 ([116,121,112,101]:Str)) fun x3 is1=>
   if !is1 then
    some ((bN.mk ([]:Str) (aJ.mk 0 []) false (ah.mk 0 false 0 ([]:Str) [] [])),8)
   else
    if (x3.kind != 1) || (x3.value.kind != 3) then
     some ((bN.mk ([]:Str) (aJ.mk 0 []) false (ah.mk 0 false 0 ([]:Str) [] [])),9)
    else
     fU (Dw x3.value.iK) fun x4 e2=>
     if e2 != 0 then
      some ((bN.mk ([]:Str) (aJ.mk 0 []) false (ah.mk 0 false 0 ([]:Str) [] [])),e2)
     else
      fU (yZ b1 ([100,101,102,97,117,108,116]:Str)) fun x5 is2=>
      if !is2 then
       some ((bN.mk b1.name x4 false (ah.mk 0 false 0 ([]:Str) [] [])),0)
      else
       fU (Dc x5 []) fun x6 e3=>
       if e3 != 0 then
        some ((bN.mk ([]:Str) (aJ.mk 0 []) false (ah.mk 0 false 0 ([]:Str) [] [])),e3)
       else
        av (BA x6 x4) fun x7=>
        if !x7 then
         some ((bN.mk ([]:Str) (aJ.mk 0 []) false (ah.mk 0 false 0 ([]:Str) [] [])),9)
        else
         some ((bN.mk b1.name x4 true x6),0)
def Am (b1:au):Option (bN × Int):=
 av (Al b1.name) fun x1=>
 if (!x1) || (decide (0 < (b1.blocks.length:Int))) then
  some ((bN.mk ([]:Str) (aJ.mk 0 []) false (ah.mk 0 false 0 ([]:Str) [] [])),1)
 else
  rH b1 BIG 0
def rJ (q1:bN) (c1:bN):Option Bool:=
 some (q1.name == c1.name)
def gU (s1:List bN) (f1:bN→Option Bool):Nat→Int→Option Int
 | 0,_=>none
 | b_ + 1,i1=>
  if decide (i1 < (s1.length:Int)) then
   av (idx s1 i1) fun e1=>
   av (f1 e1) fun x1=>
   if x1 then
    some i1
   else
    gU s1 f1 b_ (dG (i1 + 1))
  else
   some (-1)
def iD (s1:List bN) (f1:bN→Option Bool):Option Int:=
 gU s1 f1 BIG 0
def jy (s1:List bN) (f1:bN→Option Bool):Option Bool:=
 av (iD s1 f1) fun x1=>
 some (decide (0≤x1))
def nL (b1:au):Nat→List bN→Int→au→Option (List bN × au × Int)
 | 0,_,_,_=>none
 | b_ + 1,ps1,x2,iZ=>
  if decide (x2 < (b1.blocks.length:Int)) then
   av (idx b1.blocks x2) fun e1=>
   if !(e1.kind == ([112,97,114,97,109]:Str)) then
    av (qB e1) fun x3=>
    av (app iZ.blocks [x3]) fun x4=>
    nL b1 b_ ps1 (dG (x2 + 1)) (au.mk iZ.kind iZ.name iZ.attrs x4)
   else
    fU (Am e1) fun x5 e2=>
    if e2 != 0 then
     some ([],(au.mk ([]:Str) ([]:Str) [] []),e2)
    else
     av (jy ps1 (fun z0=>rJ z0 x5)) fun x6=>
     if x6 then
      some ([],(au.mk ([]:Str) ([]:Str) [] []),7)
     else
      av (app ps1 [x5]) fun ps2=>
      nL b1 b_ ps2 (dG (x2 + 1)) iZ
  else
   some (ps1,iZ,0)
def ou (b1:au):Option (List bN × au × Int):=
 av (kR b1.attrs) fun x1=>
 nL b1 BIG [] 0 (au.mk b1.kind b1.name x1 [])
def lV (t1:bq) (c1:au):Option Bool:=
 some (t1.name == c1.name)
def dw (s1:List bq) (f1:bq→Option Bool):Nat→Int→Option Int
 | 0,_=>none
 | b_ + 1,i1=>
  if decide (i1 < (s1.length:Int)) then
   av (idx s1 i1) fun e1=>
   av (f1 e1) fun x1=>
   if x1 then
    some i1
   else
    dw s1 f1 b_ (dG (i1 + 1))
  else
   some (-1)
def dZ (s1:List bq) (f1:bq→Option Bool):Option Int:=
 dw s1 f1 BIG 0
def fM (s1:List bq) (f1:bq→Option Bool):Option Bool:=
 av (dZ s1 f1) fun x1=>
 some (decide (0≤x1))
def iT (f1:bX):Nat→List bq→Int→bX→Option (List bq × bX × Int)
 | 0,_,_,_=>none
 | b_ + 1,Bo,x1,iZ=>
  if decide (x1 < (f1.blocks.length:Int)) then
   av (idx f1.blocks x1) fun e2=>
   if !(e2.kind == ([116,101,109,112,108,97,116,101]:Str)) then
    av (qB e2) fun x2=>
    av (app iZ.blocks [x2]) fun x3=>
    iT f1 b_ Bo (dG (x1 + 1)) (bX.mk x3)
   else
    av (AL e2.name) fun x4=>
    if !x4 then
     some ([],(bX.mk []),1)
    else
     u7 (ou e2) fun ps1 x5 e3=>
     if e3 != 0 then
      some ([],(bX.mk []),e3)
     else
      av (fM Bo (fun z0=>lV z0 e2)) fun x6=>
      if x6 then
       some ([],(bX.mk []),7)
      else
       av (app Bo [(bq.mk e2.name ps1 (au.mk ([]:Str) ([]:Str) x5.attrs x5.blocks))]) fun ts2=>
       iT f1 b_ ts2 (dG (x1 + 1)) iZ
  else
   some (Bo,iZ,0)
def pO (f1:bX):Option (List bq × bX × Int):=
 av (oQ f1) fun e1=>
 if e1 != 0 then
  some ([],(bX.mk []),e1)
 else
  iT f1 BIG [] 0 (bX.mk [])
def iM (t1:bq) (c1:au):Option Bool:=
 some (t1.name == c1.name)
def vC (p1:bN) (c1:aB):Option Bool:=
 some (p1.name == c1.name)
def vB (v1:aB) (c1:Str):Option Bool:=
 some (v1.name == c1)
def qY (dH:List aB) (name1:Str):Option (ah × Bool):=
 av (jh dH (fun z0=>vB z0 name1)) fun i1=>
 if decide (i1 < 0) then
  some ((ah.mk 0 false 0 ([]:Str) [] []),false)
 else
  av (idx dH i1) fun e1=>
  some (e1.value,true)
abbrev t_ (aY:List aB) (x4:Int) (e3:bN) (Hl:List aB→Int→Option (List aB × Int)) (v2:ah):Option (List aB × Int):=
 av (qA v2) fun x6=>
 av (app aY [(aB.mk e3.name x6)]) fun j6=>
 Hl j6 (dG (x4 + 1))
def nG (ps1:List bN) (args1:List aB):Nat→List aB→Int→Option (List aB × Int)
 | 0,_,_=>none
 | IZ + 1,aY,x4=>
  if decide (x4 < (ps1.length:Int)) then
   av (idx ps1 x4) fun e3=>
   fU (qY args1 e3.name) fun x5 is1=>
   if (!is1) && (!e3.has) then
    some ([],8)
   else
    if !is1 then
     t_ aY x4 e3 (nG ps1 args1 IZ) e3.default
    else
     t_ aY x4 e3 (nG ps1 args1 IZ) x5
  else
   some (aY,0)
def tZ (ps1:List bN) (args1:List aB):Nat→Int→Option (List aB × Int)
 | 0,_=>none
 | b_ + 1,i1=>
  if decide (i1 < (args1.length:Int)) then
   av (idx args1 i1) fun e1=>
   av (iD ps1 (fun z0=>vC z0 e1)) fun ER=>
   av (sl args1 0 i1) fun x1=>
   fU (qY x1 e1.name) fun x2 M0=>
   if decide (ER < 0) then
    some ([],10)
   else
    if M0 then
     some ([],7)
    else
     av (idx ps1 ER) fun e2=>
     av (BA e1.value e2.H7) fun x3=>
     if !x3 then
      some ([],9)
     else
      tZ ps1 args1 b_ (dG (i1 + 1))
  else
   nG ps1 args1 BIG [] 0
def qZ (ps1:List bN) (args1:List aB):Option (List aB × Int):=
 tZ ps1 args1 BIG 0
def pV (s1:Str):Nat→Int→Option Int
 | 0,_=>none
 | b_ + 1,i1=>
  if decide (i1 < (s1.length:Int)) then
   av (idx s1 i1) fun x1=>
   if (x1.toNat:Int) == 92 then
    pV s1 b_ (dG ((dG (i1 + 1)) + 1))
   else
    if (x1.toNat:Int) == 34 then
     some (dG (i1 + 1))
    else
     pV s1 b_ (dG (i1 + 1))
  else
   some (s1.length:Int)
def Cu (s1:Str) (jB:Int):Option Int:=
 pV s1 BIG (dG (jB + 1))
def lD (s1:Str):Nat→Int→Int→Option Int
 | 0,_,_=>none
 | b_ + 1,at2,jY=>
  if decide (at2 < (s1.length:Int)) then
   av (idx s1 at2) fun x1=>
   if (x1.toNat:Int) == 34 then
    av (Cu s1 at2) fun at3=>
    lD s1 b_ at3 jY
   else
    if (x1.toNat:Int) == 123 then
     lD s1 b_ (dG (at2 + 1)) (dG (jY + 1))
    else
     if (x1.toNat:Int) == 125 then
      if jY == 0 then
       some at2
      else
       lD s1 b_ (dG (at2 + 1)) (dG (jY - 1))
     else
      lD s1 b_ (dG (at2 + 1)) jY
  else
   some (-1)
def AJ (s1:Str) (jB:Int):Option Int:=
 lD s1 BIG jB 0
def AB (nY:Int):Option Bool:=
 some ((nY == 32) || (nY == 9))
def wR (s1:Str) (F5:UInt8→Option Bool):Nat→Int→Option Int
 | 0,_=>none
 | b_ + 1,at2=>
  av (
    if decide (at2 < (s1.length:Int)) then
     av (idx s1 at2) fun x1=>
     F5 x1
    else
     some false) fun b1=>
  if b1 then
   wR s1 F5 b_ (dG (at2 + 1))
  else
   some at2
def yX (s1:Str) (jB:Int) (F5:UInt8→Option Bool):Option Int:=
 wR s1 F5 BIG jB
def wU (c1:UInt8):Option Bool:=
 some ((c1.toNat:Int) != 10)
def wS (c1:UInt8):Option Bool:=
 some ((((decide (97≤(c1.toNat:Int))) && (decide ((c1.toNat:Int)≤122))) || ((decide (65≤(c1.toNat:Int))) && (decide ((c1.toNat:Int)≤90)))) || ((c1.toNat:Int) == 95))
def sO (c1:UInt8):Option Bool:=
 some ((decide (48≤(c1.toNat:Int))) && (decide ((c1.toNat:Int)≤57)))
def zV (c1:UInt8):Option Bool:=
 av (wS c1) fun x1=>
 if x1 then
  some true
 else
  sO c1
def IY (fP:Str) (jB:Int):Option (aS × Int × Int):=
 av (yX fP jB zV) fun uN=>
 if decide (64 < (dG (uN - jB))) then
  some ((aS.mk 0 ([]:Str) 0),0,3)
 else
  av (sl fP jB uN) fun x1=>
  some ((aS.mk 1 x1 jB),uN,0)
def wT (yK:Str):Nat→Int→Int→Option Bool
 | 0,_,_=>none
 | b_ + 1,n1,i1=>
  if (decide (i1 < (yK.length:Int))) && (decide (n1≤9007199254740992)) then
   av (idx yK i1) fun x1=>
   wT yK b_ (dG ((dG (10 * n1)) + ((x1 - 48).toNat:Int))) (dG (i1 + 1))
  else
   some (decide (9007199254740992 < n1))
def FN (yK:Str):Option Bool:=
 wT yK BIG 0 0
def DV (fP:Str) (jB:Int):Option (aS × Int × Int):=
 av (yX fP jB sO) fun uN=>
 av (sl fP jB uN) fun text1=>
 av (
   if decide (1 < (text1.length:Int)) then
    av (idx text1 0) fun x1=>
    some ((x1.toNat:Int) == 48)
   else
    some false) fun b1=>
 av (
   if b1 then
    some true
   else
    if decide (uN < (fP.length:Int)) then
     av (idx fP uN) fun x2=>
     wS x2
    else
     some false) fun b2=>
 if b2 then
  some ((aS.mk 0 ([]:Str) 0),0,5)
 else
  av (FN text1) fun x4=>
  if x4 then
   some ((aS.mk 0 ([]:Str) 0),0,2)
  else
   some ((aS.mk 2 text1 jB),uN,0)
def xW (c1:UInt8):Option Int:=
 av (sO c1) fun x1=>
 if x1 then
  some ((c1 - 48).toNat:Int)
 else
  if (decide (97≤(c1.toNat:Int))) && (decide ((c1.toNat:Int)≤102)) then
   some (dG (((c1 - 97).toNat:Int) + 10))
  else
   if (decide (65≤(c1.toNat:Int))) && (decide ((c1.toNat:Int)≤70)) then
    some (dG (((c1 - 65).toNat:Int) + 10))
   else
    some (-1)
def Ct (fP:Str) (jB:Int):Option (UInt8 × Int):=
 if decide ((fP.length:Int)≤(dG (jB + 1))) then
  some (0,0)
 else
  av (idx fP (dG (jB + 1))) fun c1=>
  if (c1.toNat:Int) == 34 then
   some (c1,2)
  else
   if (c1.toNat:Int) == 92 then
    some (c1,2)
   else
    if (c1.toNat:Int) == 110 then
     some (10,2)
    else
     if (c1.toNat:Int) == 116 then
      some (9,2)
     else
      if (c1.toNat:Int) == 120 then
       av (
         if decide ((dG (jB + 3)) < (fP.length:Int)) then
          av (idx fP (dG (jB + 2))) fun x1=>
          av (xW x1) fun x2=>
          some (decide (0≤x2))
         else
          some false) fun b1=>
       av (
         if b1 then
          av (idx fP (dG (jB + 3))) fun x3=>
          av (xW x3) fun x4=>
          some (decide (0≤x4))
         else
          some false) fun b2=>
       if b2 then
        av (idx fP (dG (jB + 2))) fun x5=>
        av (xW x5) fun x6=>
        av (idx fP (dG (jB + 3))) fun x7=>
        av (xW x7) fun x8=>
        some ((Ft.byteOf (dG ((dG (16 * x6)) + x8))),4)
       else
        some (0,0)
      else
       some (0,0)
def FM (fP:Str) (jB:Int):Option Bool:=
 av (sl fP (dG (jB + 1)) (fP.length:Int)) fun iZ=>
 if (iZ == ([]:Str)) || (iZ == ([120]:Str)) then
  some true
 else
  av (
    if (iZ.length:Int) == 2 then
     av (idx iZ 0) fun x1=>
     some ((x1.toNat:Int) == 120)
    else
     some false) fun b2=>
  if b2 then
   av (idx iZ 1) fun x2=>
   av (xW x2) fun x3=>
   some (decide (0≤x3))
  else
   some false
def uY (fP:Str) (jB:Int):Nat→Int→Str→Option (aS × Int × Int)
 | 0,_,_=>none
 | b_ + 1,i1,b1=>
  if decide (i1 < (fP.length:Int)) then
   av (idx fP i1) fun c1=>
   if (c1.toNat:Int) == 34 then
    if decide (4096 < (b1.length:Int)) then
     some ((aS.mk 0 ([]:Str) 0),0,3)
    else
     some ((aS.mk 3 b1 jB),(dG (i1 + 1)),0)
   else
    if decide ((c1.toNat:Int) < 32) then
     some ((aS.mk 0 ([]:Str) 0),0,5)
    else
     if (c1.toNat:Int) == 92 then
      fU (Ct fP i1) fun x1 n1=>
      av (
        if n1 == 0 then
         FM fP i1
        else
         some false) fun b2=>
      if b2 then
       some ((aS.mk 0 ([]:Str) 0),0,4)
      else
       if n1 == 0 then
        some ((aS.mk 0 ([]:Str) 0),0,5)
       else
        av (app b1 [x1]) fun b3=>
        uY fP jB b_ (dG (i1 + n1)) b3
     else
      av (app b1 [c1]) fun b4=>
      uY fP jB b_ (dG (i1 + 1)) b4
  else
   some ((aS.mk 0 ([]:Str) 0),0,4)
def IX (fP:Str) (jB:Int):Option (aS × Int × Int):=
 uY fP jB BIG (dG (jB + 1)) []
def oK (fP:Str) (jB:Int):Nat→Int→Option (aS × Int × Int)
 | 0,_=>none
 | b_ + 1,x1=>
  if decide (x1 < (([2,1]:List Int).length:Int)) then
   av (idx ([2,1]:List Int) x1) fun n1=>
   if decide ((fP.length:Int) < (dG (jB + n1))) then
    oK fP jB b_ (dG (x1 + 1))
   else
    av (sl fP jB (dG (jB + n1))) fun s1=>
    if s1 == ([124,124]:Str) then
     some ((aS.mk 4 s1 jB),(dG (jB + n1)),0)
    else
     if s1 == ([38,38]:Str) then
      some ((aS.mk 4 s1 jB),(dG (jB + n1)),0)
     else
      if s1 == ([61,61]:Str) then
       some ((aS.mk 4 s1 jB),(dG (jB + n1)),0)
      else
       if s1 == ([33,61]:Str) then
        some ((aS.mk 4 s1 jB),(dG (jB + n1)),0)
       else
        if s1 == ([60,61]:Str) then
         some ((aS.mk 4 s1 jB),(dG (jB + n1)),0)
        else
         if s1 == ([62,61]:Str) then
          some ((aS.mk 4 s1 jB),(dG (jB + n1)),0)
         else
          if s1 == ([60]:Str) then
           some ((aS.mk 4 s1 jB),(dG (jB + n1)),0)
          else
           if s1 == ([62]:Str) then
            some ((aS.mk 4 s1 jB),(dG (jB + n1)),0)
           else
            if s1 == ([43]:Str) then
             some ((aS.mk 4 s1 jB),(dG (jB + n1)),0)
            else
             if s1 == ([45]:Str) then
              some ((aS.mk 4 s1 jB),(dG (jB + n1)),0)
             else
              if s1 == ([42]:Str) then
               some ((aS.mk 4 s1 jB),(dG (jB + n1)),0)
              else
               if s1 == ([47]:Str) then
                some ((aS.mk 4 s1 jB),(dG (jB + n1)),0)
               else
                if s1 == ([37]:Str) then
                 some ((aS.mk 4 s1 jB),(dG (jB + n1)),0)
                else
                 if s1 == ([33]:Str) then
                  some ((aS.mk 4 s1 jB),(dG (jB + n1)),0)
                 else
                  if s1 == ([63]:Str) then
                   some ((aS.mk 4 s1 jB),(dG (jB + n1)),0)
                  else
                   if s1 == ([58]:Str) then
                    some ((aS.mk 4 s1 jB),(dG (jB + n1)),0)
                   else
                    if s1 == ([46]:Str) then
                     some ((aS.mk 4 s1 jB),(dG (jB + n1)),0)
                    else
                     if s1 == ([44]:Str) then
                      some ((aS.mk 4 s1 jB),(dG (jB + n1)),0)
                     else
                      if s1 == ([61]:Str) then
                       some ((aS.mk 4 s1 jB),(dG (jB + n1)),0)
                      else
                       if s1 == ([40]:Str) then
                        some ((aS.mk 4 s1 jB),(dG (jB + n1)),0)
                       else
                        if s1 == ([41]:Str) then
                         some ((aS.mk 4 s1 jB),(dG (jB + n1)),0)
                        else
                         if s1 == ([91]:Str) then
                          some ((aS.mk 4 s1 jB),(dG (jB + n1)),0)
                         else
                          if s1 == ([93]:Str) then
                           some ((aS.mk 4 s1 jB),(dG (jB + n1)),0)
                          else
                           if s1 == ([123]:Str) then
                            some ((aS.mk 4 s1 jB),(dG (jB + n1)),0)
                           else
                            if s1 == ([125]:Str) then
                             some ((aS.mk 4 s1 jB),(dG (jB + n1)),0)
                            else
                             oK fP jB b_ (dG (x1 + 1))
  else
   some ((aS.mk 0 ([]:Str) 0),0,5)
def Az (fP:Str) (jB:Int):Option (aS × Int × Int):=
 oK fP jB BIG 0
def FL (fP:Str) (jB:Int):Option (aS × Int × Int):=
 av (idx fP jB) fun c1=>
 av (wS c1) fun x1=>
 if x1 then
  IY fP jB
 else
  av (sO c1) fun x5=>
  if x5 then
   DV fP jB
  else
   if (c1.toNat:Int) == 34 then
    IX fP jB
   else
    Az fP jB
def AA (op1:Str) (jY:Int):Option Int:=
 if op1 == ([40]:Str) then
  some (dG (jY + 1))
 else
  if op1 == ([91]:Str) then
   some (dG (jY + 1))
  else
   if op1 == ([41]:Str) then
    some (if 0 < (dG (jY - 1)) then (dG (jY - 1)) else 0)
   else
    if op1 == ([93]:Str) then
     some (if 0 < (dG (jY - 1)) then (dG (jY - 1)) else 0)
    else
     some jY
def kM (fP:Str):Nat→List aS→Int→Int→Nat→Option (List aS × Int × Int)
 | 0,_,_,_,_=>none
 | b_ + 1,aY,C9,jY,pos1=>
  if decide (pos1 < fP.length) then
   av (
     if decide ((pos1:Int) < C9) then
      some true
     else
      AB ((dec fP pos1).1:Int)) fun b1=>
   if b1 then
    kM fP b_ aY C9 jY (pos1 + (dec fP pos1).2)
   else
    if ((dec fP pos1).1:Int) == 35 then
     av (yX fP (pos1:Int) wU) fun WM=>
     kM fP b_ aY WM jY (pos1 + (dec fP pos1).2)
    else
     if ((dec fP pos1).1:Int) == 10 then
      av (
        if jY == 0 then
         if (aY.length:Int) == 0 then
          some true
         else
          av (idx aY (dG ((aY.length:Int) - 1))) fun e1=>
          some (e1.kind != 5)
        else
         some false) fun b2=>
      if b2 then
       av (app aY [(aS.mk 5 ([]:Str) (pos1:Int))]) fun j6=>
       kM fP b_ j6 C9 jY (pos1 + (dec fP pos1).2)
      else
       kM fP b_ aY C9 jY (pos1 + (dec fP pos1).2)
     else
      u7 (FL fP (pos1:Int)) fun x2 uN e2=>
      if e2 != 0 then
       some ([],(pos1:Int),e2)
      else
       if x2.kind == 4 then
        av (AA x2.text jY) fun WI=>
        av (app aY [x2]) fun aak=>
        kM fP b_ aak uN WI (pos1 + (dec fP pos1).2)
       else
        av (app aY [x2]) fun aaj=>
        kM fP b_ aaj uN jY (pos1 + (dec fP pos1).2)
  else
   some (aY,0,0)
def DW (fP:Str):Option (List aS × Int × Int):=
 if decide (65536 < (fP.length:Int)) then
  some ([],0,3)
 else
  kM fP BIG [] 0 0 0
def rM (s1:Str):Nat→Int→Option Bool
 | 0,_=>none
 | b_ + 1,i1=>
  if decide (i1 < (s1.length:Int)) then
   av (idx s1 i1) fun x2=>
   av (zU x2) fun x3=>
   if !x3 then
    some false
   else
    rM s1 b_ (dG (i1 + 1))
  else
   fU (strconv_Atoi s1) fun n1 Bt=>
   some ((Bt.isNone) && (decide (n1≤9007199254740992)))
def Av (s1:Str):Option Bool:=
 av (
   if s1 == ([]:Str) then
    some true
   else
    if decide (1 < (s1.length:Int)) then
     av (idx s1 0) fun x1=>
     some ((x1.toNat:Int) == 48)
    else
     some false) fun b1=>
 if b1 then
  some false
 else
  rM s1 BIG 0
def FD (t1:aS):Option Bool:=
 if t1.kind == 1 then
  BH t1.text
 else
  if t1.kind == 2 then
   Av t1.text
  else
   if t1.kind == 3 then
    some (decide ((t1.text.length:Int)≤4096))
   else
    if t1.kind == 4 then
     some true
    else
     some false
def lW (nY:ak):Option (aS × ak):=
 av (
   if decide (nY.at_ < (nY.ts.length:Int)) then
    av (idx nY.ts nY.at_) fun e1=>
    FD e1
   else
    some false) fun b1=>
 if b1 then
  av (idx nY.ts nY.at_) fun e2=>
  some (e2,nY)
 else
  some ((aS.mk 0 ([]:Str) 0),nY)
def xU (nY:ak) (op1:Str):Option (Bool × ak):=
 fU (lW nY) fun x1 y1=>
 some (((x1.kind == 4) && (x1.text == op1)),y1)
def dS (nY:ak) (op1:Str):Option (Bool × ak):=
 fU (xU nY op1) fun x1 y1=>
 if !x1 then
  some (false,y1)
 else
  some (true,(ak.mk y1.ts (dG (y1.at_ + 1))))
def jk (nY:ak) (e1:Int):Option (eP ay Unit × ak):=
 some (.bad (ay.mk nY.at_ e1),nY)
def lX (nY:ak):Option (eP ay aS × ak):=
 if decide ((nY.ts.length:Int)≤nY.at_) then
  iX (jk nY 4) (fun e1 y2=>some (.bad e1,y2)) fun _ y1=>
  fU (lW y1) fun x1 y3=>
  if x1.kind == 0 then
   iX (jk y3 5) (fun e2 y5=>some (.bad e2,y5)) fun _ y4=>
   some (.ok x1,y4)
  else
   some (.ok x1,y3)
 else
  fU (lW nY) fun x2 y6=>
  if x2.kind == 0 then
   iX (jk y6 5) (fun e3 y8=>some (.bad e3,y8)) fun _ y7=>
   some (.ok x2,y7)
  else
   some (.ok x2,y6)
def pU (v1:ah):Option aj:=
 some (aj.mk 1 ([]:Str) v1 [] [])
def gP (nY:ak) (op1:Str):Option (eP ay Unit × ak):=
 iX (lX nY) (fun e1 y2=>some (.bad e1,y2)) fun x1 y1=>
 fU (dS y1 op1) fun x2 y3=>
 if !x2 then
  iX (jk y3 5) (fun e2 y5=>some (.bad e2,y5)) fun _ y4=>
  some (.ok (),y4)
 else
  some (.ok (),y3)
def oo (aD:ak→Option (eP ay aj × ak)) (aI:ak→Int→Option (eP ay aj × ak)) (aN:ak→Option (eP ay aj × ak)) (aO:ak→Option (eP ay aj × ak)) (bn:ak→Option (eP ay aj × ak)) (bg:ak→Str→Option (eP ay aj × ak)) (aW:ak→Str→Option (eP ay (List aj) × ak)) (aP:ak→Option (eP ay aj × ak)) (nY:ak):Option (eP ay aj × ak):=
 iX (aI nY 2) (fun e1 y2=>some (.bad e1,y2)) fun x1 y1=>
 fU (dS y1 ([63]:Str)) fun x2 y3=>
 if !x2 then
  some (.ok x1,y3)
 else
  iX (aD y3) (fun e2 y5=>some (.bad e2,y5)) fun x3 y4=>
  iX (gP y4 ([58]:Str)) (fun e3 y7=>some (.bad e3,y7)) fun _ y6=>
  iX (aD y6) (fun e4 y9=>some (.bad e4,y9)) fun x4 y8=>
  some (.ok (aj.mk 8 ([]:Str) (ah.mk 0 false 0 ([]:Str) [] []) [x1,x3,x4] []),y8)
def lu (aI:ak→Int→Option (eP ay aj × ak)) (n1:Int):Nat→aj→ak→Option (eP ay aj × ak)
 | 0,_,_=>none
 | b_ + 1,e3,y5=>
  fU (lW y5) fun x3 y6=>
  av (
    if x3.kind != 4 then
     some true
    else
     av (ow x3.text) fun x4=>
     some (x4 != n1)) fun b1=>
  if b1 then
   some (.ok e3,y6)
  else
   iX (aI (ak.mk y6.ts (dG (y6.at_ + 1))) (dG (n1 + 1))) (fun e4 y8=>some (.bad e4,y8)) fun x5 y7=>
   if n1 == 4 then
    some (.ok (aj.mk 7 x3.text (ah.mk 0 false 0 ([]:Str) [] []) [e3,x5] []),y7)
   else
    lu aI n1 b_ (aj.mk 7 x3.text (ah.mk 0 false 0 ([]:Str) [] []) [e3,x5] []) y7
def om (aD:ak→Option (eP ay aj × ak)) (aI:ak→Int→Option (eP ay aj × ak)) (aN:ak→Option (eP ay aj × ak)) (aO:ak→Option (eP ay aj × ak)) (bn:ak→Option (eP ay aj × ak)) (bg:ak→Str→Option (eP ay aj × ak)) (aW:ak→Str→Option (eP ay (List aj) × ak)) (aP:ak→Option (eP ay aj × ak)) (nY:ak) (n1:Int):Option (eP ay aj × ak):=
 if n1 == 7 then
  iX (aN nY) (fun e1 y2=>some (.bad e1,y2)) fun x1 y1=>
  some (.ok x1,y1)
 else
  iX (aI nY (dG (n1 + 1))) (fun e2 y4=>some (.bad e2,y4)) fun x2 y3=>
  lu aI n1 BIG x2 y3
def ni (aN:ak→Option (eP ay aj × ak)) (aO:ak→Option (eP ay aj × ak)):Nat→Int→ak→Option (eP ay aj × ak)
 | 0,_,_=>none
 | b_ + 1,x1,y1=>
  if decide (x1 < (([([33]:Str),([45]:Str)]:List Str).length:Int)) then
   av (idx ([([33]:Str),([45]:Str)]:List Str) x1) fun op1=>
   fU (dS y1 op1) fun x2 y2=>
   if x2 then
    iX (aN y2) (fun e1 y4=>some (.bad e1,y4)) fun x3 y3=>
    some (.ok (aj.mk 6 op1 (ah.mk 0 false 0 ([]:Str) [] []) [x3] []),y3)
   else
    ni aN aO b_ (dG (x1 + 1)) y2
  else
   iX (aO y1) (fun e2 y6=>some (.bad e2,y6)) fun x4 y5=>
   some (.ok x4,y5)
def rD (aD:ak→Option (eP ay aj × ak)) (aI:ak→Int→Option (eP ay aj × ak)) (aN:ak→Option (eP ay aj × ak)) (aO:ak→Option (eP ay aj × ak)) (bn:ak→Option (eP ay aj × ak)) (bg:ak→Str→Option (eP ay aj × ak)) (aW:ak→Str→Option (eP ay (List aj) × ak)) (aP:ak→Option (eP ay aj × ak)) (nY:ak):Option (eP ay aj × ak):=
 ni aN aO BIG 0 nY
def jT (aD:ak→Option (eP ay aj × ak)):Nat→aj→ak→Option (eP ay aj × ak)
 | 0,_,_=>none
 | b_ + 1,e2,y3=>
  fU (dS y3 ([46]:Str)) fun x2 y4=>
  if x2 then
   iX (lX y4) (fun e3 y6=>some (.bad e3,y6)) fun x3 y5=>
   av (
     if x3.kind != 1 then
      some true
     else
      yS x3.text) fun b1=>
   if b1 then
    iX (jk y5 5) (fun e4 y8=>some (.bad e4,y8)) fun _ y7=>
    jT aD b_ (aj.mk 3 x3.text (ah.mk 0 false 0 ([]:Str) [] []) [e2] []) (ak.mk y7.ts (dG (y7.at_ + 1)))
   else
    jT aD b_ (aj.mk 3 x3.text (ah.mk 0 false 0 ([]:Str) [] []) [e2] []) (ak.mk y5.ts (dG (y5.at_ + 1)))
  else
   fU (dS y4 ([91]:Str)) fun x5 y9=>
   if x5 then
    iX (aD y9) (fun e5 XQ=>some (.bad e5,XQ)) fun x6 X0=>
    iX (gP X0 ([93]:Str)) (fun e6 y13=>some (.bad e6,y13)) fun _ XZ=>
    jT aD b_ (aj.mk 4 ([]:Str) (ah.mk 0 false 0 ([]:Str) [] []) [e2,x6] []) XZ
   else
    some (.ok e2,y9)
def rE (aD:ak→Option (eP ay aj × ak)) (aI:ak→Int→Option (eP ay aj × ak)) (aN:ak→Option (eP ay aj × ak)) (aO:ak→Option (eP ay aj × ak)) (bn:ak→Option (eP ay aj × ak)) (bg:ak→Str→Option (eP ay aj × ak)) (aW:ak→Str→Option (eP ay (List aj) × ak)) (aP:ak→Option (eP ay aj × ak)) (nY:ak):Option (eP ay aj × ak):=
 iX (bn nY) (fun e1 y2=>some (.bad e1,y2)) fun x1 y1=>
 jT aD BIG x1 y1
def sI (aD:ak→Option (eP ay aj × ak)) (aI:ak→Int→Option (eP ay aj × ak)) (aN:ak→Option (eP ay aj × ak)) (aO:ak→Option (eP ay aj × ak)) (bn:ak→Option (eP ay aj × ak)) (bg:ak→Str→Option (eP ay aj × ak)) (aW:ak→Str→Option (eP ay (List aj) × ak)) (aP:ak→Option (eP ay aj × ak)) (nY:ak):Option (eP ay aj × ak):=
 iX (lX nY) (fun e1 y2=>some (.bad e1,y2)) fun x1 y1=>
 if x1.kind == 2 then
  fU (strconv_Atoi x1.text) fun n1 x2=>
  av (pU (ah.mk 2 false n1 ([]:Str) [] [])) fun x3=>
  some (.ok x3,(ak.mk y1.ts (dG (y1.at_ + 1))))
 else
  if x1.kind == 3 then
   av (pU (ah.mk 3 false 0 x1.text [] [])) fun x4=>
   some (.ok x4,(ak.mk y1.ts (dG (y1.at_ + 1))))
  else
   if x1.kind == 1 then
    iX (bg (ak.mk y1.ts (dG (y1.at_ + 1))) x1.text) (fun e2 y4=>some (.bad e2,y4)) fun x5 y3=>
    some (.ok x5,y3)
   else
    fU (dS y1 ([40]:Str)) fun x6 y5=>
    if x6 then
     iX (aD y5) (fun e3 y7=>some (.bad e3,y7)) fun x7 y6=>
     iX (gP y6 ([41]:Str)) (fun e4 y9=>some (.bad e4,y9)) fun _ y8=>
     some (.ok x7,y8)
    else
     fU (dS y5 ([91]:Str)) fun x8 X0=>
     if x8 then
      iX (aW X0 ([93]:Str)) (fun e5 XZ=>some (.bad e5,XZ)) fun x9 XQ=>
      some (.ok (aj.mk 9 ([]:Str) (ah.mk 0 false 0 ([]:Str) [] []) x9 []),XQ)
     else
      fU (dS X0 ([123]:Str)) fun Kn y13=>
      if Kn then
       iX (aP y13) (fun e6 y15=>some (.bad e6,y15)) fun Lb y14=>
       some (.ok Lb,y14)
      else
       iX (jk y13 5) (fun e7 y17=>some (.bad e7,y17)) fun _ y16=>
       some (.ok (aj.mk 0 ([]:Str) (ah.mk 0 false 0 ([]:Str) [] []) [] []),y16)
def sH (aD:ak→Option (eP ay aj × ak)) (aI:ak→Int→Option (eP ay aj × ak)) (aN:ak→Option (eP ay aj × ak)) (aO:ak→Option (eP ay aj × ak)) (bn:ak→Option (eP ay aj × ak)) (bg:ak→Str→Option (eP ay aj × ak)) (aW:ak→Str→Option (eP ay (List aj) × ak)) (aP:ak→Option (eP ay aj × ak)) (nY:ak) (s1:Str):Option (eP ay aj × ak):=
 if s1 == ([110,117,108,108]:Str) then
  av (pU (ah.mk 0 false 0 ([]:Str) [] [])) fun x1=>
  some (.ok x1,nY)
 else
  av (yS s1) fun x2=>
  if x2 then
   av (pU (ah.mk 1 (s1 == ([116,114,117,101]:Str)) 0 ([]:Str) [] [])) fun x3=>
   some (.ok x3,nY)
  else
   fU (dS nY ([40]:Str)) fun x4 y1=>
   if x4 then
    iX (aW y1 ([41]:Str)) (fun e1 y3=>some (.bad e1,y3)) fun x5 y2=>
    some (.ok (aj.mk 5 s1 (ah.mk 0 false 0 ([]:Str) [] []) x5 []),y2)
   else
    some (.ok (aj.mk 2 s1 (ah.mk 0 false 0 ([]:Str) [] []) [] []),y1)
def nV (aD:ak→Option (eP ay aj × ak)) (uN:Str):Nat→List aj→ak→Option (eP ay (List aj) × ak)
 | 0,_,_=>none
 | b_ + 1,aY,y2=>
  iX (aD y2) (fun e1 y4=>some (.bad e1,y4)) fun x2 y3=>
  av (app aY [x2]) fun j6=>
  fU (dS y3 ([44]:Str)) fun x3 y5=>
  if !x3 then
   iX (gP y5 uN) (fun e2 y7=>some (.bad e2,y7)) fun _ y6=>
   some (.ok j6,y6)
  else
   nV aD uN b_ j6 y5
def sJ (aD:ak→Option (eP ay aj × ak)) (aI:ak→Int→Option (eP ay aj × ak)) (aN:ak→Option (eP ay aj × ak)) (aO:ak→Option (eP ay aj × ak)) (bn:ak→Option (eP ay aj × ak)) (bg:ak→Str→Option (eP ay aj × ak)) (aW:ak→Str→Option (eP ay (List aj) × ak)) (aP:ak→Option (eP ay aj × ak)) (nY:ak) (uN:Str):Option (eP ay (List aj) × ak):=
 fU (dS nY uN) fun x1 y1=>
 if x1 then
  some (.ok [],y1)
 else
  nV aD uN BIG [] y1
def kC (aD:ak→Option (eP ay aj × ak)):Nat→aj→ak→Option (eP ay aj × ak)
 | 0,_,_=>none
 | b_ + 1,aY,y2=>
  iX (lX y2) (fun e1 y4=>some (.bad e1,y4)) fun x2 y3=>
  if (x2.kind != 1) && (x2.kind != 3) then
   iX (jk y3 5) (fun e2 y6=>some (.bad e2,y6)) fun _ y5=>
   iX (gP (ak.mk y5.ts (dG (y5.at_ + 1))) ([58]:Str)) (fun e3 y8=>some (.bad e3,y8)) fun _ y7=>
   av (app aY.keys ([x2.text]:List Str)) fun x3=>
   iX (aD y7) (fun e4 X0=>some (.bad e4,X0)) fun x4 y9=>
   av (app aY.args [x4]) fun x5=>
   fU (dS y9 ([44]:Str)) fun x6 XQ=>
   if !x6 then
    iX (gP XQ ([125]:Str)) (fun e5 y13=>some (.bad e5,y13)) fun _ XZ=>
    some (.ok (aj.mk aY.kind aY.name aY.value x5 x3),XZ)
   else
    kC aD b_ (aj.mk aY.kind aY.name aY.value x5 x3) XQ
  else
   iX (gP (ak.mk y3.ts (dG (y3.at_ + 1))) ([58]:Str)) (fun e6 y15=>some (.bad e6,y15)) fun _ y14=>
   av (app aY.keys ([x2.text]:List Str)) fun x7=>
   iX (aD y14) (fun e7 y17=>some (.bad e7,y17)) fun x8 y16=>
   av (app aY.args [x8]) fun x9=>
   fU (dS y16 ([44]:Str)) fun Kn y18=>
   if !Kn then
    iX (gP y18 ([125]:Str)) (fun e8 y20=>some (.bad e8,y20)) fun _ y19=>
    some (.ok (aj.mk aY.kind aY.name aY.value x9 x7),y19)
   else
    kC aD b_ (aj.mk aY.kind aY.name aY.value x9 x7) y18
def pR (aD:ak→Option (eP ay aj × ak)) (aI:ak→Int→Option (eP ay aj × ak)) (aN:ak→Option (eP ay aj × ak)) (aO:ak→Option (eP ay aj × ak)) (bn:ak→Option (eP ay aj × ak)) (bg:ak→Str→Option (eP ay aj × ak)) (aW:ak→Str→Option (eP ay (List aj) × ak)) (aP:ak→Option (eP ay aj × ak)) (nY:ak):Option (eP ay aj × ak):=
 fU (dS nY ([125]:Str)) fun x1 y1=>
 if x1 then
  some (.ok (aj.mk 10 ([]:Str) (ah.mk 0 false 0 ([]:Str) [] []) [] []),y1)
 else
  kC aD BIG (aj.mk 10 ([]:Str) (ah.mk 0 false 0 ([]:Str) [] []) [] []) y1
mutual
def bR :Nat→ak→Option (eP ay aj × ak)
 | 0,_=>none
 | k + 1,gD=>oo (bR k) (bQ k) (cB k) (cK k) (dA k) (dx k) (dB k) (bW k) gD
def bQ :Nat→ak→Int→Option (eP ay aj × ak)
 | 0,_,_=>none
 | k + 1,gD,L6=>om (bR k) (bQ k) (cB k) (cK k) (dA k) (dx k) (dB k) (bW k) gD L6
def cB :Nat→ak→Option (eP ay aj × ak)
 | 0,_=>none
 | k + 1,gD=>rD (bR k) (bQ k) (cB k) (cK k) (dA k) (dx k) (dB k) (bW k) gD
def cK :Nat→ak→Option (eP ay aj × ak)
 | 0,_=>none
 | k + 1,gD=>rE (bR k) (bQ k) (cB k) (cK k) (dA k) (dx k) (dB k) (bW k) gD
def dA :Nat→ak→Option (eP ay aj × ak)
 | 0,_=>none
 | k + 1,gD=>sI (bR k) (bQ k) (cB k) (cK k) (dA k) (dx k) (dB k) (bW k) gD
def dx :Nat→ak→Str→Option (eP ay aj × ak)
 | 0,_,_=>none
 | k + 1,gD,qx=>sH (bR k) (bQ k) (cB k) (cK k) (dA k) (dx k) (dB k) (bW k) gD qx
def dB :Nat→ak→Str→Option (eP ay (List aj) × ak)
 | 0,_,_=>none
 | k + 1,gD,Er=>sJ (bR k) (bQ k) (cB k) (cK k) (dA k) (dx k) (dB k) (bW k) gD Er
def bW :Nat→ak→Option (eP ay aj × ak)
 | 0,_=>none
 | k + 1,gD=>pR (bR k) (bQ k) (cB k) (cK k) (dA k) (dx k) (dB k) (bW k) gD
end
def vY (gD:ak):Option (eP ay aj × ak):=bR BIG gD
def CZ (gD:ak) (L6:Int):Option (eP ay aj × ak):=bQ BIG gD L6
def He (gD:ak):Option (eP ay aj × ak):=cB BIG gD
def Hf (gD:ak):Option (eP ay aj × ak):=cK BIG gD
def IU (gD:ak):Option (eP ay aj × ak):=dA BIG gD
def IQ (gD:ak) (qx:Str):Option (eP ay aj × ak):=dx BIG gD qx
def IV (gD:ak) (Er:Str):Option (eP ay (List aj) × ak):=dB BIG gD Er
def EP (gD:ak):Option (eP ay aj × ak):=bW BIG gD
def FE (Bo:List aS):Option (aj × Int × Int):=
 iX (vY (ak.mk Bo 0)) (fun f1 _=>some ((aj.mk 0 ([]:Str) (ah.mk 0 false 0 ([]:Str) [] []) [] []),f1.at_,f1.code)) fun e1 r1=>
 some (e1,r1.at_,0)
def FI (Bo:List aS):Option (aj × Int × Int):=
 u7 (FE Bo) fun x1 n1 tK=>
 if tK != 0 then
  some ((aj.mk 0 ([]:Str) (ah.mk 0 false 0 ([]:Str) [] []) [] []),n1,tK)
 else
  av (oI x1) fun FZ=>
  if FZ != 0 then
   some ((aj.mk 0 ([]:Str) (ah.mk 0 false 0 ([]:Str) [] []) [] []),0,FZ)
  else
   some (x1,n1,0)
def DC (Bo:List aS) (n1:Int) (fP:Str):Option Int:=
 if decide (n1 < (Bo.length:Int)) then
  av (idx Bo n1) fun e1=>
  some e1.at_
 else
  some (fP.length:Int)
def DN (fP:Str):Option (aj × Int × Int):=
 u7 (DW fP) fun Bo jB tK=>
 if tK != 0 then
  some ((aj.mk 0 ([]:Str) (ah.mk 0 false 0 ([]:Str) [] []) [] []),jB,tK)
 else
  u7 (FI Bo) fun x1 n1 FZ=>
  if FZ != 0 then
   av (DC Bo n1 fP) fun x2=>
   some ((aj.mk 0 ([]:Str) (ah.mk 0 false 0 ([]:Str) [] []) [] []),x2,FZ)
  else
   if decide (n1 < (Bo.length:Int)) then
    av (idx Bo n1) fun e1=>
    some ((aj.mk 0 ([]:Str) (ah.mk 0 false 0 ([]:Str) [] []) [] []),e1.at_,5)
   else
    some (x1,0,0)
def oM (kU:List aU) (text1:Str):Option (List aU):=
 if decide (0 < (text1.length:Int)) then app kU [(aU.mk text1 false (aj.mk 0 ([]:Str) (ah.mk 0 false 0 ([]:Str) [] []) [] []))] else some kU
def oz (s1:Str):Nat→Int→List aU→Str→Option (List aU × Int × Int)
 | 0,_,_,_=>none
 | b_ + 1,jB,kU,text1=>
  if decide (jB < (s1.length:Int)) then
   av (sl s1 jB (s1.length:Int)) fun iZ=>
   av (strings_HasPrefix iZ ([36,36]:Str)) fun b1=>
   if b1 then
    av (app text1 [36]) fun VY=>
    oz s1 b_ (dG (jB + 2)) kU VY
   else
    av (strings_HasPrefix iZ ([36,123]:Str)) fun b2=>
    if b2 then
     av (AJ s1 (dG (jB + 2))) fun uN=>
     if decide (uN < 0) then
      some ([],jB,4)
     else
      av (sl s1 (dG (jB + 2)) uN) fun x1=>
      u7 (DN x1) fun e1 n1 tK=>
      if tK != 0 then
       some ([],(dG ((dG (jB + 2)) + n1)),tK)
      else
       av (oM kU text1) fun Ui=>
       av (app Ui [(aU.mk ([]:Str) true e1)]) fun Qx=>
       oz s1 b_ (dG (uN + 1)) Qx []
    else
     av (idx s1 jB) fun c1=>
     av (app text1 [c1]) fun VX=>
     oz s1 b_ (dG (jB + 1)) kU VX
  else
   av (oM kU text1) fun Uh=>
   some (Uh,0,0)
def ug (s1:Str):Option (List aU × Int × Int):=
 if decide (4096 < (s1.length:Int)) then
  some ([],0,3)
 else
  oz s1 BIG 0 [] []
def iA (s1:List aj) (f1:aj→Option Bool):Nat→Int→Option Int
 | 0,_=>none
 | b_ + 1,i1=>
  if decide (i1 < (s1.length:Int)) then
   av (idx s1 i1) fun e1=>
   av (f1 e1) fun x1=>
   if x1 then
    some i1
   else
    iA s1 f1 b_ (dG (i1 + 1))
  else
   some (-1)
def j4 (s1:List aj) (f1:aj→Option Bool):Option Int:=
 iA s1 f1 BIG 0
def jF (s1:List aj) (f1:aj→Option Bool):Option Bool:=
 av (j4 s1 f1) fun x1=>
 some (decide (0≤x1))
def gT (s1:List aU) (f1:aU→Option Bool):Nat→Int→Option Int
 | 0,_=>none
 | b_ + 1,i1=>
  if decide (i1 < (s1.length:Int)) then
   av (idx s1 i1) fun e1=>
   av (f1 e1) fun x1=>
   if x1 then
    some i1
   else
    gT s1 f1 b_ (dG (i1 + 1))
  else
   some (-1)
def jJ (s1:List aU) (f1:aU→Option Bool):Option Int:=
 gT s1 f1 BIG 0
def jv (s1:List aU) (f1:aU→Option Bool):Option Bool:=
 av (jJ s1 f1) fun x1=>
 some (decide (0≤x1))
def zw (eT:List aU→List aB→Option Bool) (dM:aU→List aB→Option Bool) (dX:aj→List aB→Option Bool) (dJ:aj→List aB→Option Bool) (ps1:List aU) (dH:List aB):Option Bool:=
 jv ps1 (fun z0=>dM z0 dH)
def wG (eT:List aU→List aB→Option Bool) (dM:aU→List aB→Option Bool) (dX:aj→List aB→Option Bool) (dJ:aj→List aB→Option Bool) (p1:aU) (c1:List aB):Option Bool:=
 if p1.WT then
  dX p1.expr c1
 else
  some false
def xR (eT:List aU→List aB→Option Bool) (dM:aU→List aB→Option Bool) (dX:aj→List aB→Option Bool) (dJ:aj→List aB→Option Bool) (e1:aj) (dH:List aB):Option Bool:=
 if e1.kind == 2 then
  fU (qY dH e1.name) fun x1 is1=>
  some is1
 else
  if (e1.kind == 1) && (e1.value.kind == 3) then
   u7 (ug e1.value.iK) fun ps1 x2 Bt=>
   if Bt == 0 then
    eT ps1 dH
   else
    some false
  else
   jF e1.args (fun z0=>dJ z0 dH)
def vN (eT:List aU→List aB→Option Bool) (dM:aU→List aB→Option Bool) (dX:aj→List aB→Option Bool) (dJ:aj→List aB→Option Bool) (a1:aj) (c1:List aB):Option Bool:=
 dX a1 c1
mutual
def jq :Nat→List aU→List aB→Option Bool
 | 0,_,_=>none
 | k + 1,LZ,jo=>zw (jq k) (iC k) (iV k) (gX k) LZ jo
def iC :Nat→aU→List aB→Option Bool
 | 0,_,_=>none
 | k + 1,kV,L8=>wG (jq k) (iC k) (iV k) (gX k) kV L8
def iV :Nat→aj→List aB→Option Bool
 | 0,_,_=>none
 | k + 1,jN,jo=>xR (jq k) (iC k) (iV k) (gX k) jN jo
def gX :Nat→aj→List aB→Option Bool
 | 0,_,_=>none
 | k + 1,zq,L8=>vN (jq k) (iC k) (iV k) (gX k) zq L8
end
def H8 (LZ:List aU) (jo:List aB):Option Bool:=jq BIG LZ jo
def L9 (kV:aU) (L8:List aB):Option Bool:=iC BIG kV L8
def M5 (jN:aj) (jo:List aB):Option Bool:=iV BIG jN jo
def Kz (zq:aj) (L8:List aB):Option Bool:=gX BIG zq L8
def II (v1:ah):Option Str:=
 av (nC v1) fun x1=>
 if x1 != 0 then
  some ([]:Str)
 else
  Cb v1
def DJ (e1:aj):Option Int:=
 if e1.kind == 8 then
  some 1
 else
  if e1.kind == 7 then
   ow e1.name
  else
   if e1.kind == 6 then
    some 7
   else
    if ((e1.kind == 1) && (e1.value.kind == 2)) && (decide (e1.value.jm < 0)) then
     some 7
    else
     some 8
def mo (s1:Str):Nat→Int→Str→Option Str
 | 0,_,_=>none
 | b_ + 1,i1,b2=>
  if decide (i1 < (s1.length:Int)) then
   av (idx s1 i1) fun c1=>
   if ((c1.toNat:Int) == 34) || ((c1.toNat:Int) == 92) then
    av (sl s1 i1 (dG (i1 + 1))) fun x1=>
    av (app ([92]:Str) x1) fun x2=>
    av (app b2 x2) fun b3=>
    mo s1 b_ (dG (i1 + 1)) b3
   else
    if (c1.toNat:Int) == 10 then
     av (app b2 ([92,110]:Str)) fun b4=>
     mo s1 b_ (dG (i1 + 1)) b4
    else
     if (c1.toNat:Int) == 9 then
      av (app b2 ([92,116]:Str)) fun b5=>
      mo s1 b_ (dG (i1 + 1)) b5
     else
      if (decide ((c1.toNat:Int) < 32)) || (decide (126 < (c1.toNat:Int))) then
       av (sl ([48,49,50,51,52,53,54,55,56,57,97,98,99,100,101,102]:Str) ((c1 / 16).toNat:Int) (((c1 / 16) + 1).toNat:Int)) fun x3=>
       av (app ([92,120]:Str) x3) fun x4=>
       av (sl ([48,49,50,51,52,53,54,55,56,57,97,98,99,100,101,102]:Str) ((c1 % 16).toNat:Int) (((c1 % 16) + 1).toNat:Int)) fun x5=>
       av (app x4 x5) fun x6=>
       av (app b2 x6) fun b6=>
       mo s1 b_ (dG (i1 + 1)) b6
      else
       av (app b2 [c1]) fun b7=>
       mo s1 b_ (dG (i1 + 1)) b7
  else
   app b2 [34]
def FP (s1:Str):Option Str:=
 av (app [] [34]) fun b1=>
 mo s1 BIG 0 b1
def zA (fT:aj→Option Str) (dI:aj→Int→Option Str) (gJ:aj→Option Str) (e1:aj):Option Str:=
 if e1.kind == 1 then
  II e1.value
 else
  if e1.kind == 2 then
   some e1.name
  else
   if e1.kind == 3 then
    av (idx e1.args 0) fun e2=>
    av (dI e2 8) fun x2=>
    av (app x2 ([46]:Str)) fun x3=>
    app x3 e1.name
   else
    if e1.kind == 4 then
     av (idx e1.args 0) fun e3=>
     av (dI e3 8) fun x5=>
     av (app x5 ([91]:Str)) fun x6=>
     av (idx e1.args 1) fun e4=>
     av (dI e4 1) fun x7=>
     av (app x6 x7) fun x8=>
     app x8 ([93]:Str)
    else
     if e1.kind == 5 then
      av (app e1.name ([40]:Str)) fun Kn=>
      av (gJ e1) fun Lb=>
      av (app Kn Lb) fun Rl=>
      app Rl ([41]:Str)
     else
      if e1.kind == 6 then
       av (idx e1.args 0) fun e5=>
       av (dI e5 7) fun Vp=>
       app e1.name Vp
      else
       if e1.kind == 7 then
        av (ow e1.name) fun n1=>
        if n1 == 4 then
         av (idx e1.args 0) fun e6=>
         av (dI e6 (dG (n1 + 1))) fun UC=>
         av (app UC ([32]:Str)) fun Vo=>
         av (app Vo e1.name) fun X3=>
         av (app X3 ([32]:Str)) fun YG=>
         av (idx e1.args 1) fun e7=>
         av (dI e7 (dG (n1 + 1))) fun x20=>
         app YG x20
        else
         av (idx e1.args 0) fun e8=>
         av (dI e8 n1) fun x22=>
         av (app x22 ([32]:Str)) fun x23=>
         av (app x23 e1.name) fun x24=>
         av (app x24 ([32]:Str)) fun x25=>
         av (idx e1.args 1) fun e9=>
         av (dI e9 (dG (n1 + 1))) fun x26=>
         app x25 x26
       else
        if e1.kind == 8 then
         av (idx e1.args 0) fun e10=>
         av (dI e10 2) fun x28=>
         av (app x28 ([32,63,32]:Str)) fun x29=>
         av (idx e1.args 1) fun e11=>
         av (dI e11 1) fun x30=>
         av (app x29 x30) fun x31=>
         av (app x31 ([32,58,32]:Str)) fun x32=>
         av (idx e1.args 2) fun e12=>
         av (dI e12 1) fun x33=>
         app x32 x33
        else
         if e1.kind == 9 then
          av (gJ e1) fun x35=>
          av (app ([91]:Str) x35) fun x36=>
          app x36 ([93]:Str)
         else
          av (gJ e1) fun x38=>
          av (app ([123]:Str) x38) fun x39=>
          app x39 ([125]:Str)
def DL (fT:aj→Option Str) (dI:aj→Int→Option Str) (gJ:aj→Option Str) (e1:aj) (GD:Int):Option Str:=
 av (DJ e1) fun x1=>
 if decide (x1 < GD) then
  av (fT e1) fun x2=>
  av (app ([40]:Str) x2) fun x3=>
  app x3 ([41]:Str)
 else
  fT e1
def sK (dI:aj→Int→Option Str) (e1:aj):Nat→List Str→Int→Option Str
 | 0,_,_=>none
 | b_ + 1,mU,i1=>
  if decide (i1 < (e1.args.length:Int)) then
   av (idx e1.args i1) fun e2=>
   av (dI e2 1) fun s1=>
   if e1.kind == 10 then
    av (idx e1.keys i1) fun e3=>
    av (FP e3) fun x1=>
    av (app x1 ([58,32]:Str)) fun x2=>
    av (app x2 s1) fun s2=>
    av (app mU ([s2]:List Str)) fun IL=>
    sK dI e1 b_ IL (dG (i1 + 1))
   else
    av (app mU ([s1]:List Str)) fun IK=>
    sK dI e1 b_ IK (dG (i1 + 1))
  else
   strings_Join mU ([44,32]:Str)
def Co (fT:aj→Option Str) (dI:aj→Int→Option Str) (gJ:aj→Option Str) (e1:aj):Option Str:=
 sK dI e1 BIG [] 0
mutual
def kL :Nat→aj→Option Str
 | 0,_=>none
 | k + 1,jN=>zA (kL k) (nk k) (l9 k) jN
def nk :Nat→aj→Int→Option Str
 | 0,_,_=>none
 | k + 1,jN,mQ=>DL (kL k) (nk k) (l9 k) jN mQ
def l9 :Nat→aj→Option Str
 | 0,_=>none
 | k + 1,jN=>Co (kL k) (nk k) (l9 k) jN
end
def H_ (jN:aj):Option Str:=kL BIG jN
def Tg (jN:aj) (mQ:Int):Option Str:=nk BIG jN mQ
def RO (jN:aj):Option Str:=l9 BIG jN
def BI (e1:aj):Option Str:=
 av (oI e1) fun x1=>
 if x1 != 0 then
  some ([]:Str)
 else
  H_ e1
def strings_ReplaceAll (s1:Str) (Yh:Str) (new1:Str):Option Str:=
 if s1.length < 4294967281∧Yh=[36]∧new1=[36,36] then some (s1.flatMap fun x=>if x == 36 then [36,36] else [x]) else none
def sS (ps1:List aU):Nat→Int→Str→Option Str
 | 0,_,_=>none
 | b_ + 1,x1,b1=>
  if decide (x1 < (ps1.length:Int)) then
   av (idx ps1 x1) fun e1=>
   if e1.WT then
    av (BI e1.expr) fun x2=>
    av (app ([36,123]:Str) x2) fun x3=>
    av (app x3 ([125]:Str)) fun x4=>
    av (app b1 x4) fun b2=>
    sS ps1 b_ (dG (x1 + 1)) b2
   else
    av (strings_ReplaceAll e1.text ([36]:Str) ([36,36]:Str)) fun x5=>
    av (app b1 x5) fun b3=>
    sS ps1 b_ (dG (x1 + 1)) b3
  else
   some b1
def FQ (ps1:List aU):Option Str:=
 sS ps1 BIG 0 []
def mh (go:aj→List aB→Option (aj × Bool × Int)) (dH:List aB) (n1:Int):Nat→List aU→Int→Option (List aU × Int)
 | 0,_,_=>none
 | b_ + 1,l1,i1=>
  if decide (i1 < n1) then
   av (idx l1 i1) fun p1=>
   if !p1.WT then
    mh go dH n1 b_ l1 (dG (i1 + 1))
   else
    fU (tY p1.expr (fun z0=>go z0 dH)) fun x3 Bt=>
    if Bt != 0 then
     some ([],Bt)
    else
     mh go dH n1 b_ (l1.set i1.toNat (aU.mk p1.text p1.WT x3)) (dG (i1 + 1))
  else
   some (l1,0)
def uK (go:aj→List aB→Option (aj × Bool × Int)) (e1:aj) (dH:List aB):Option (aj × Bool × Int):=
 fU (qY dH e1.name) fun v1 is1=>
 if is1 && (e1.kind == 2) then
  av (qA v1) fun x1=>
  some ((aj.mk 1 ([]:Str) x1 [] []),true,0)
 else
  if (e1.kind != 1) || (e1.value.kind != 3) then
   some ((aj.mk 0 ([]:Str) (ah.mk 0 false 0 ([]:Str) [] []) [] []),false,0)
  else
   u7 (ug e1.value.iK) fun ps1 x2 Bt=>
   av (if Bt != 0 then some true else av (H8 ps1 dH) fun u1=>some (!u1)) fun b1=>
   if b1 then
    some ((aj.mk 0 ([]:Str) (ah.mk 0 false 0 ([]:Str) [] []) [] []),false,0)
   else
    fU (mh go dH (ps1.length:Int) BIG ps1 0) fun ps2 QN=>
    if QN != 0 then
     some ((aj.mk 0 ([]:Str) (ah.mk 0 false 0 ([]:Str) [] []) [] []),false,QN)
    else
     av (FQ ps2) fun s1=>
     if decide (4096 < (s1.length:Int)) then
      some ((aj.mk 0 ([]:Str) (ah.mk 0 false 0 ([]:Str) [] []) [] []),false,3)
     else
      some ((aj.mk 1 ([]:Str) (ah.mk 3 false 0 s1 [] []) [] []),true,0)
def lG :Nat→aj→List aB→Option (aj × Bool × Int)
 | 0,_,_=>none
 | k + 1,e1,dH=>uK (lG k) e1 dH
def TY (e1:aj) (dH:List aB):Option (aj × Bool × Int):=lG BIG e1 dH
def zx (e1:aj) (dH:List aB):Option (aj × Int):=tY e1 (fun z0=>lG BIG z0 dH)
def zG (p1:aU) (mq:List aB):Option (Str × Int):=
 if !p1.WT then
  some (p1.text,0)
 else
  fU (Dc p1.expr mq) fun x1 tK=>
  if tK != 0 then
   some (([]:Str),tK)
  else
   Dt x1
def uh (mq:List aB) (ps1:List aU):Nat→Int→Str→Option (Str × Int)
 | 0,_,_=>none
 | b_ + 1,x2,b1=>
  if decide (x2 < (ps1.length:Int)) then
   av (idx ps1 x2) fun e1=>
   fU (zG e1 mq) fun t1 Xe=>
   if Xe != 0 then
    some (([]:Str),Xe)
   else
    av (app b1 t1) fun b2=>
    uh mq ps1 b_ (dG (x2 + 1)) b2
  else
   if decide (4096 < (b1.length:Int)) then
    some (([]:Str),3)
   else
    some (b1,0)
def Cv (s1:Str) (mq:List aB):Option (Str × Int):=
 u7 (ug s1) fun ps1 x1 tK=>
 if tK != 0 then
  some (([]:Str),tK)
 else
  av (AV mq) fun FZ=>
  if FZ != 0 then
   some (([]:Str),FZ)
  else
   uh mq ps1 BIG 0 []
def mE (dP:au→List aB→Option (au × Int)) (b1:au) (dH:List aB):Nat→Int→au→Option (au × Int)
 | 0,_,_=>none
 | IZ + 1,x4,j6=>
  if decide (x4 < (b1.blocks.length:Int)) then
   av (idx b1.blocks x4) fun e3=>
   fU (Cv e3.name dH) fun name1 e4=>
   if e4 != 0 then
    some ((au.mk ([]:Str) ([]:Str) [] []),e4)
   else
    fU (dP (au.mk e3.kind name1 e3.attrs e3.blocks) dH) fun x5 e5=>
    if e5 != 0 then
     some ((au.mk ([]:Str) ([]:Str) [] []),e5)
    else
     av (app j6.blocks [x5]) fun x6=>
     mE dP b1 dH IZ (dG (x4 + 1)) (au.mk j6.kind j6.name j6.attrs x6)
  else
   some (j6,0)
def mF (dP:au→List aB→Option (au × Int)) (b1:au) (dH:List aB):Nat→Int→au→Option (au × Int)
 | 0,_,_=>none
 | b_ + 1,x1,aY=>
  if decide (x1 < (b1.attrs.length:Int)) then
   av (idx b1.attrs x1) fun e1=>
   fU (zx e1.expr dH) fun x2 e2=>
   if e2 != 0 then
    some ((au.mk ([]:Str) ([]:Str) [] []),e2)
   else
    av (app aY.attrs [(aM.mk e1.name x2)]) fun x3=>
    mF dP b1 dH b_ (dG (x1 + 1)) (au.mk aY.kind aY.name x3 aY.blocks)
  else
   mE dP b1 dH BIG 0 aY
def qz (dP:au→List aB→Option (au × Int)) (b1:au) (dH:List aB):Option (au × Int):=
 mF dP b1 dH BIG 0 (au.mk b1.kind b1.name [] [])
def kZ :Nat→au→List aB→Option (au × Int)
 | 0,_,_=>none
 | k + 1,qN,jo=>qz (kZ k) qN jo
def sw (qN:au) (jo:List aB):Option (au × Int):=kZ BIG qN jo
def kT (x3:Int) (x7:au) (y3:aG) (p9:Int→au→aG→Option (au × Int × aG)):Nat→Int→au→Option (au × Int × aG)
 | 0,_,_=>none
 | IZ + 1,x9,j6=>
  if decide (x9 < (x7.attrs.length:Int)) then
   av (idx x7.attrs x9) fun e2=>
   fU (yZ j6 e2.name) fun Kn M0=>
   if M0 then
    some ((au.mk ([]:Str) ([]:Str) [] []),7,y3)
   else
    av (app j6.attrs [e2]) fun Lb=>
    kT x3 x7 y3 p9 IZ (dG (x9 + 1)) (au.mk j6.kind j6.name Lb j6.blocks)
  else
   av (app j6.blocks x7.blocks) fun Rl=>
   p9 (dG (x3 + 1)) (au.mk j6.kind j6.name j6.attrs Rl) y3
def gL (bH:aG→au→Int→Option (au × Int × aG)) (bT:aG→au→Int→Option (au × Int × aG)) (b1:au) (mW:Int):Nat→Int→au→aG→Option (au × Int × aG)
 | 0,_,_,_=>none
 | b_ + 1,x3,aY,y1=>
  if decide (x3 < (b1.blocks.length:Int)) then
   av (idx b1.blocks x3) fun e1=>
   if !(e1.kind == ([117,115,101]:Str)) then
    u7 (bH y1 e1 mW) fun x4 x5 y2=>
    if x5 != 0 then
     some ((au.mk ([]:Str) ([]:Str) [] []),x5,y2)
    else
     av (app aY.blocks [x4]) fun x6=>
     gL bH bT b1 mW b_ (dG (x3 + 1)) (au.mk aY.kind aY.name aY.attrs x6) y2
   else
    u7 (bT y1 e1 mW) fun x7 x8 y3=>
    if x8 != 0 then
     some ((au.mk ([]:Str) ([]:Str) [] []),x8,y3)
    else
     kT x3 x7 y3 (gL bH bT b1 mW b_) BIG 0 aY
  else
   some (aY,0,y1)
def lg (bH:aG→au→Int→Option (au × Int × aG)) (bT:aG→au→Int→Option (au × Int × aG)) (x1:aG) (b1:au) (mW:Int):Option (au × Int × aG):=
 av (kR b1.attrs) fun x2=>
 gL bH bT b1 mW BIG 0 (au.mk b1.kind b1.name x2 []) x1
def jr (bH:aG→au→Int→Option (au × Int × aG)) (x1:aG) (Fj:au) (mW:Int) (ER:Int):Nat→List aB→Int→Option (au × Int × aG)
 | 0,_,_=>none
 | b_ + 1,args1,x2=>
  if decide (x2 < (Fj.attrs.length:Int)) then
   av (idx Fj.attrs x2) fun e1=>
   fU (Dc e1.expr x1.env) fun x3 e2=>
   if e2 != 0 then
    some ((au.mk ([]:Str) ([]:Str) [] []),e2,(aG.mk x1.templates x1.env (dG (x1.uses + 1))))
   else
    av (app args1 [(aB.mk e1.name x3)]) fun args2=>
    jr bH x1 Fj mW ER b_ args2 (dG (x2 + 1))
  else
   av (idx x1.templates ER) fun e3=>
   fU (qZ e3.params args1) fun dH e4=>
   if e4 != 0 then
    some ((au.mk ([]:Str) ([]:Str) [] []),e4,(aG.mk x1.templates x1.env (dG (x1.uses + 1))))
   else
    av (idx x1.templates ER) fun e5=>
    fU (sw e5.body dH) fun x4 e6=>
    if e6 != 0 then
     some ((au.mk ([]:Str) ([]:Str) [] []),e6,(aG.mk x1.templates x1.env (dG (x1.uses + 1))))
    else
     bH (aG.mk x1.templates x1.env (dG (x1.uses + 1))) x4 (dG (mW + 1))
def jE (bH:aG→au→Int→Option (au × Int × aG)) (bT:aG→au→Int→Option (au × Int × aG)) (x1:aG) (Fj:au) (mW:Int):Option (au × Int × aG):=
 av (dZ x1.templates (fun z0=>iM z0 Fj)) fun ER=>
 if decide (0 < (Fj.blocks.length:Int)) then
  some ((au.mk ([]:Str) ([]:Str) [] []),1,(aG.mk x1.templates x1.env (dG (x1.uses + 1))))
 else
  if decide (ER < 0) then
   some ((au.mk ([]:Str) ([]:Str) [] []),8,(aG.mk x1.templates x1.env (dG (x1.uses + 1))))
  else
   if decide (16≤mW) then
    some ((au.mk ([]:Str) ([]:Str) [] []),13,(aG.mk x1.templates x1.env (dG (x1.uses + 1))))
   else
    if decide (4096≤x1.uses) then
     some ((au.mk ([]:Str) ([]:Str) [] []),15,(aG.mk x1.templates x1.env (dG (x1.uses + 1))))
    else
     jr bH x1 Fj mW ER BIG [] 0
mutual
def eU :Nat→aG→au→Int→Option (au × Int × aG)
 | 0,_,_,_=>none
 | k + 1,LX,qN,kK=>lg (eU k) (dU k) LX qN kK
def dU :Nat→aG→au→Int→Option (au × Int × aG)
 | 0,_,_,_=>none
 | k + 1,LX,Ep,kK=>jE (eU k) (dU k) LX Ep kK
end
def o9 (LX:aG) (qN:au) (kK:Int):Option (au × Int × aG):=eU BIG LX qN kK
def uE (LX:aG) (Ep:au) (kK:Int):Option (au × Int × aG):=dU BIG LX Ep kK
def lU (f1:bX):Nat→Int→bX→aG→Option (bX × Int)
 | 0,_,_,_=>none
 | b_ + 1,x1,aY,y1=>
  if decide (x1 < (f1.blocks.length:Int)) then
   av (idx f1.blocks x1) fun e3=>
   if !(e3.kind == ([117,115,101]:Str)) then
    u7 (o9 y1 e3 0) fun x2 x3 y2=>
    if x3 != 0 then
     some ((bX.mk []),x3)
    else
     av (app aY.blocks [x2]) fun x4=>
     lU f1 b_ (dG (x1 + 1)) (bX.mk x4) y2
   else
    u7 (uE y1 e3 0) fun x5 x6 y3=>
    if x6 != 0 then
     some ((bX.mk []),x6)
    else
     if decide (0 < (x5.attrs.length:Int)) then
      some ((bX.mk []),1)
     else
      av (app aY.blocks x5.blocks) fun x7=>
      lU f1 b_ (dG (x1 + 1)) (bX.mk x7) y3
  else
   av (oQ aY) fun e4=>
   if e4 != 0 then
    some ((bX.mk []),e4)
   else
    some (aY,0)
def qP (f1:bX) (Bo:List bq) (mq:List aB):Option (bX × Int):=
 av (oQ f1) fun e1=>
 if e1 != 0 then
  some ((bX.mk []),e1)
 else
  av (AV mq) fun e2=>
  if e2 != 0 then
   some ((bX.mk []),e2)
  else
   lU f1 BIG 0 (bX.mk []) (aG.mk Bo mq 0)
def sQ (f1:bX) (mq:List aB):Option (bX × Int):=
 u7 (pO f1) fun Bo x1 e1=>
 if e1 != 0 then
  some ((bX.mk []),e1)
 else
  qP x1 Bo mq
def yY (v1:ah):Option aj:=
 some (aj.mk 1 ([]:Str) v1 [] [])
def JN (s1:Str):Option aj:=
 yY (ah.mk 3 false 0 s1 [] [])
def QG (e1:aj):Option aj:=
 av (yY (ah.mk 2 false 1 ([]:Str) [] [])) fun x1=>
 some (aj.mk 7 ([43]:Str) (ah.mk 0 false 0 ([]:Str) [] []) [e1,x1] [])
def Da (args1:List aM):Option bX:=
 av (JN ([105,110,116]:Str)) fun x1=>
 av (JO ([110]:Str)) fun x2=>
 av (QG x2) fun x3=>
 some (bX.mk [(au.mk ([116,101,109,112,108,97,116,101]:Str) ([116]:Str) [(aM.mk ([120]:Str) x3)] [(au.mk ([112,97,114,97,109]:Str) ([110]:Str) [(aM.mk ([116,121,112,101]:Str) x1)] [])]),(au.mk ([106,111,98]:Str) ([]:Str) [] [(au.mk ([117,115,101]:Str) ([116]:Str) args1 [])])])
def Ag :Option Bool:=
 av (yY (ah.mk 2 false 2 ([]:Str) [] [])) fun x1=>
 av (Da [(aM.mk ([110]:Str) x1)]) fun x2=>
 fU (sQ x2 []) fun x3 e1=>
 av (Da []) fun x4=>
 fU (sQ x4 []) fun x5 g1=>
 av (JN ([97]:Str)) fun x6=>
 av (Da [(aM.mk ([110]:Str) x6)]) fun x7=>
 fU (sQ x7 []) fun x8 hx1=>
 av (Da [(aM.mk ([109]:Str) x1)]) fun x9=>
 fU (sQ x9 []) fun Kn ER=>
 av (
   if (e1 != 0) || ((x3.blocks.length:Int) != 1) then
    some true
   else
    av (idx x3.blocks 0) fun e2=>
    some ((e2.attrs.length:Int) != 1)) fun b1=>
 av (
   if b1 then
    some true
   else
    av (idx x3.blocks 0) fun e3=>
    some ((e3.blocks.length:Int) != 0)) fun b2=>
 if ((b2 || (g1 != 8)) || (hx1 != 9)) || (ER != 10) then
  some false
 else
  fU (qZ [(bN.mk ([110]:Str) (aJ.mk 3 []) true (ah.mk 2 false 7 ([]:Str) [] []))] []) fun l1 m1=>
  av (idx x3.blocks 0) fun e4=>
  av (idx e4.attrs 0) fun e5=>
  av (BI e5.expr) fun Lb=>
  if ((Lb == ([50,32,43,32,49]:Str)) && (m1 == 0)) && ((l1.length:Int) == 1) then
   av (idx l1 0) fun e6=>
   some (e6.value.jm == 7)
  else
   some false
def iE (n1:UInt8):Nat→Int→bX→Option Bool
 | 0,_,_=>none
 | b_ + 1,i1,f1=>
  if decide (i1 < (n1.toNat:Int)) then
   av (vX i1) fun x1=>
   av (app ([116]:Str) x1) fun x2=>
   if decide ((dG (i1 + 1)) < (n1.toNat:Int)) then
    av (vX (dG (i1 + 1))) fun x3=>
    av (app ([116]:Str) x3) fun x4=>
    av (app f1.blocks [(au.mk ([116,101,109,112,108,97,116,101]:Str) x2 [] [(au.mk ([117,115,101]:Str) x4 [] [])])]) fun x5=>
    iE n1 b_ (dG (i1 + 1)) (bX.mk x5)
   else
    av (JO ([97]:Str)) fun x6=>
    av (app f1.blocks [(au.mk ([116,101,109,112,108,97,116,101]:Str) x2 [(aM.mk ([120]:Str) x6)] [])]) fun x7=>
    iE n1 b_ (dG (i1 + 1)) (bX.mk x7)
  else
   av (app f1.blocks [(au.mk ([106,111,98]:Str) ([]:Str) [] [(au.mk ([117,115,101]:Str) ([116,48]:Str) [] [])])]) fun x8=>
   fU (sQ (bX.mk x8) []) fun x9 e1=>
   if (n1.toNat:Int) == 0 then
    if e1 == 8 then
     Ag
    else
     some false
   else
    if decide (16 < (n1.toNat:Int)) then
     if e1 == 13 then
      Ag
     else
      some false
    else
     av (
       if (e1 == 0) && ((x9.blocks.length:Int) == 1) then
        av (idx x9.blocks 0) fun e2=>
        some ((e2.attrs.length:Int) == 1)
       else
        some false) fun b3=>
     av (
       if b3 then
        av (idx x9.blocks 0) fun e3=>
        some ((e3.blocks.length:Int) == 0)
       else
        some false) fun b4=>
     if b4 then
      Ag
     else
      some false
def oL (n1:UInt8):Option Bool:=
 iE n1 BIG 0 (bX.mk [])
end Go.Ft
